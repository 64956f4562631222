/- Plain facts for plays: what a call makes of a table, and what stays true of it. The state of plays: the table, the reference's table in its box, the same list in both. Slices of calls: how they read; an argument that is one; ContainsFunc over one. plays' walk. ReducePlays' walk. Lists of calls in a row of one's own, and in a literal; lists of Infos in a literal. What the functions answer where there is no table, and no times. ReduceSmall's walk. -/
import Derived.Test.YtcpcoomkapblcaaRefU
import Derived.Test.YtcpcoomkapblcaaRefV
import Derived.Test.YtcpcoomkapblcaaRedP
import Derived.Test.YtcpcoomkapblcaaIntsMore
import Derived.Test.YtcpcoomkapblcaaRow
import Derived.Deep.Slices
import Derived.Deep.Fields
import Derived.ChangeSame
import Derived.Test.YtcpcoomkapblcaaRefD
import Derived.Test.YtcpcoomkapblcaaRefR
import Derived.Test.YtcpcoomkapblcaaAwake
import Derived.Test.YtcpcoomkapblcaaIndexS
import Derived.Test.YtcpcoomkapblcaaInfos
import Derived.Deep.RegionHeld3
import Derived.Deep.CutBlock
import Derived.Deep.CutRange
import Derived.Outline
import Derived.Test.YtcpcoomkapblcaaWSorts
import Derived.Test.YtcpcoomkapblcaaTimesC
open Go Go.RowKit Go.Maps
namespace Go.Proofs.Ytcpcoomkapblcaa
/-- What is true of a table that only Put, Use, Remove and Reduce have made. -/
structure GoodT (T : List Inf) : Prop where
  apart : IdsApart T
  good : ∀ x ∈ T, 1 ≤ x.id ∧ x.id ≤ 1073741824 ∧ 0 ≤ x.lev
theorem GoodT.nil : GoodT [] := ⟨by simp [IdsApart], by simp⟩
theorem GoodT.filter {T : List Inf} (h : GoodT T) (p : Inf → Bool) : GoodT (T.filter p) :=
  ⟨List.Pairwise.filter _ h.apart, fun x hx => h.good x (List.mem_filter.1 hx).1⟩
theorem apart_snoc {T : List Inf} (h : IdsApart T) {x : Inf} (hx : ∀ y ∈ T, y.id ≠ x.id) : IdsApart (T ++ [x]) := by
  unfold IdsApart at *
  rw [List.pairwise_append]
  exact ⟨h, by simp, fun a ha b hb => by simp at hb; subst hb; exact hx a ha⟩
theorem GoodT.put {T : List Inf} (h : GoodT T) (c i l : Int) : GoodT (putR T c i l).1 ∧ (putR T c i l).1.length ≤ T.length + 1 ∧ ((putR T c i l).2.1 = c ∨ (putR T c i l).2.1 = c + 1) := by
  unfold putR
  split
  · exact ⟨h, by simp, .inl rfl⟩
  · rename_i h1
    split
    · exact ⟨h, by simp, .inl rfl⟩
    · rename_i h2
      refine ⟨⟨apart_snoc (List.Pairwise.filter _ h.apart) (fun y hy => by have := (List.mem_filter.1 hy).2; simpa using this), fun x hx => ?_⟩, ?_, .inr rfl⟩
      · rcases List.mem_append.1 hx with hx | hx
        · exact h.good x (List.mem_filter.1 hx).1
        · simp at hx
          subst hx
          simp only [not_or] at h1
          exact ⟨by simp only; omega, by simp only; omega, by simp only; omega⟩
      · rw [List.length_append]
        have := List.length_filter_le (fun y : Inf => decide (y.id ≠ i)) T
        simp only [List.length_cons, List.length_nil]
        omega
theorem GoodT.use {T : List Inf} (h : GoodT T) (c i l : Int) : GoodT (useR T c i l).1 ∧ (useR T c i l).1.length ≤ T.length + 1 ∧ ((useR T c i l).2.1 = c ∨ (useR T c i l).2.1 = c + 1) := by
  unfold useR
  split
  · exact ⟨h, by simp, .inl rfl⟩
  · rename_i h1
    split
    · exact ⟨h, by simp, .inl rfl⟩
    · rename_i h2
      have hh : hasI T i = true := by cases e : hasI T i; exact absurd e h1; rfl
      have hinT : infoOf T i ∈ T ∧ (infoOf T i).id = i := by
        unfold infoOf findI
        cases hfd : T.find? (fun x => x.id == i) with
        | none =>
          rw [List.find?_eq_none] at hfd
          obtain ⟨x, hx, hxi⟩ := hasI_iff.1 hh
          exact absurd (by simpa using hxi) (hfd x hx)
        | some x => exact ⟨List.mem_of_find?_eq_some hfd, by simpa using List.find?_some hfd⟩
      obtain ⟨g1, g2, g3⟩ := h.good _ hinT.1
      rw [hinT.2] at g1 g2
      refine ⟨⟨apart_snoc (List.Pairwise.filter _ h.apart) (fun y hy => by have := (List.mem_filter.1 hy).2; simpa using this), fun x hx => ?_⟩, ?_, .inr rfl⟩
      · rcases List.mem_append.1 hx with hx | hx
        · exact h.good x (List.mem_filter.1 hx).1
        · simp at hx
          subst hx
          exact ⟨g1, g2, by simp only; omega⟩
      · rw [List.length_append]
        have := List.length_filter_le (fun y : Inf => decide (y.id ≠ i)) T
        simp only [List.length_cons, List.length_nil]
        omega
theorem GoodT.rem {T : List Inf} (h : GoodT T) (i : Int) : GoodT (remR T i).1 ∧ (remR T i).1.length ≤ T.length := by
  unfold remR
  split
  · exact ⟨h, Nat.le_refl _⟩
  · exact ⟨h.filter _, List.length_filter_le _ _⟩
theorem GoodT.red {T : List Inf} (h : GoodT T) (locked : List Int) : GoodT (redT T locked) ∧ (redT T locked).length ≤ T.length := ⟨h.filter _, List.length_filter_le _ _⟩
/-- A list of Infos lies neither in the table's head nor in its map. -/
theorem RdS.but {B p m : Nat} {w w' : World} {sv : Value} {T T' : List Inf} {c : Int} (h : RdS B w sv T) (ht : Tab w p m T' c) (hb : But p m w w') (hB : B ≤ w.heap.size) : RdS B w' sv T := by
  obtain ⟨A, cap, e, hc, hr⟩ := h
  refine ⟨A, cap, e, hc, fun h0 => ?_⟩
  obtain ⟨g, off, e1, hg, hcell⟩ := hr h0
  have hnp : g ≠ p := by
    rintro rfl
    have h2 := (hcell 0 h0).2.2
    rw [Nat.zero_mul, Nat.add_zero] at h2
    simp [World.cell?, ht.head] at h2
  have hnm : g ≠ m := by
    rintro rfl
    have h2 := (hcell 0 h0).1
    obtain ⟨es, q, hq, -⟩ := ht.map
    simp [World.cell?, hq] at h2
  refine ⟨g, off, e1, hg, fun k hk => ?_⟩
  obtain ⟨h1, h2, h3⟩ := hcell k hk
  have hbl := hb.block g (by omega) hnp hnm
  exact ⟨(World.cell?_of_block hbl).trans h1, (World.cell?_of_block hbl).trans h2, (World.cell?_of_block hbl).trans h3⟩
end Go.Proofs.Ytcpcoomkapblcaa
open Go Go.RowKit Go.Maps
namespace Go.Proofs.Ytcpcoomkapblcaa
structure PS (w wr : World) (p m q : Nat) (T : List Inf) (c : Int) (sv : Value) : Prop where
  tab : Tab wr p m T c
  good : GoodT T
  box : wr.heap[q]? = some (.cells #[sv, .int .i64 c] 94 (0, 0))
  rd : RdS wr.heap.size wr sv T
  bel : Below w.heap.size w wr
  hp : w.heap.size ≤ p
  hm : w.heap.size ≤ m
  hq : w.heap.size ≤ q
variable {w wr : World} {p m q : Nat} {T : List Inf} {c : Int} {sv : Value}
theorem PS.qlt (h : PS w wr p m q T c sv) : q < wr.heap.size := (Array.getElem?_eq_some_iff.1 h.box).1
theorem PS.qp (h : PS w wr p m q T c sv) : q ≠ p := by
  rintro rfl
  have h1 := h.box
  rw [h.tab.head] at h1
  injection h1 with h1
  injection h1 with _ h2
  cases h2
theorem PS.qm (h : PS w wr p m q T c sv) : q ≠ m := by
  rintro rfl
  obtain ⟨es, k, hk, -⟩ := h.tab.map
  have h1 := h.box
  rw [hk] at h1
  injection h1 with h1
  cases h1
theorem PS.below {w' : World} (h : PS w wr p m q T c sv) (hb : Below wr.heap.size wr w') : PS w w' p m q T c sv :=
  ⟨h.tab.below hb, h.good, (hb.block q h.qlt).trans h.box, (h.rd.below hb).more hb.size, h.bel.trans (hb.mono h.bel.size), h.hp, h.hm, h.hq⟩
/-- A call of the table, the same call of the reference, and the store of what the reference returns. -/
theorem PS.step {w1 w2 : World} {T1 : List Inf} {c1 : Int} {sv1 : Value} (h : PS w wr p m q T c sv) (ht : Tab w1 p m T1 c1) (hb : But p m wr w1) (hg : GoodT T1) (hb2 : Below w1.heap.size w1 w2) (hr : RdS w2.heap.size w2 sv1 T1) :
    w2.heap[q]? = some (.cells #[sv, .int .i64 c] 94 (0, 0)) ∧ PS w ((w2.setCell ⟨q, 0, none⟩ sv1).setCell ⟨q, 1, none⟩ (.int .i64 c1)) p m q T1 c1 sv1 := by
  have hq1 : w1.heap[q]? = some (.cells #[sv, .int .i64 c] 94 (0, 0)) := (hb.block q h.qlt h.qp h.qm).trans h.box
  have hq2 : w2.heap[q]? = some (.cells #[sv, .int .i64 c] 94 (0, 0)) := (hb2.block q (Nat.lt_of_lt_of_le h.qlt hb.size)).trans hq1
  have r1 := RdS.two (j := 0) (u := sv1) hr hq2
  have r2 := RdS.two (j := 1) (u := .int .i64 c1) r1.1 r1.2
  refine ⟨hq2, ⟨?_, hg, by simpa using r2.2, r2.1.more (by simp), ?_, h.hp, h.hm, h.hq⟩⟩
  · exact ((ht.below hb2).setCell (a := ⟨q, 0, none⟩) (Ne.symm h.qp) (Ne.symm h.qm) sv1).setCell (a := ⟨q, 1, none⟩) (Ne.symm h.qp) (Ne.symm h.qm) (.int .i64 c1)
  · have hb1 : Below w.heap.size w w1 := hb.below h.bel h.hp h.hm h.bel.size
    exact ((hb1.trans (hb2.mono hb1.size)).setCell (p := ⟨q, 0, none⟩) h.hq sv1).setCell (p := ⟨q, 1, none⟩) h.hq (.int .i64 c1)
end Go.Proofs.Ytcpcoomkapblcaa
open Go Go.RowKit Go.Maps
namespace Go.Proofs.Ytcpcoomkapblcaa
open Go.Shelf
/-- A call of a table, as the law's argument gives it. -/
structure ActD where
  kind : Int
  id : Int
  lev : Int
  lock : List Int
/-- The cells of a call. -/
def ActAt (n₀ : Nat) (W : World) (b o : Nat) (x : ActD) : Prop :=
  ∃ lv, W.cell? ⟨b, o, none⟩ = some (.int .u8 x.kind) ∧ W.cell? ⟨b, o + 1, none⟩ = some (.int .i64 x.id) ∧ W.cell? ⟨b, o + 2, none⟩ = some (.int .i64 x.lev) ∧ W.cell? ⟨b, o + 3, none⟩ = some lv ∧ RdI n₀ W lv x.lock ∧ x.lock.length ≤ maxLen ∧ 0 ≤ x.kind ∧ x.kind ≤ 255 ∧ (Lit.int .i64 x.id).wf = true ∧ (Lit.int .i64 x.lev).wf = true
def noAct : ActD := ⟨0, 0, 0, []⟩
/-- The slice value sv reads as the calls l. -/
def RdA (n₀ : Nat) (W : World) (sv : Value) (l : List ActD) : Prop :=
  ∃ A cap, sv = .slice A l.length cap ∧ l.length ≤ cap ∧ (0 < l.length → ∃ b off, A = some ⟨b, off, none⟩ ∧ b < n₀ ∧ ∀ k, k < l.length → ActAt n₀ W b (off + k * 4) (l[k]?.getD noAct))
theorem RdA.form {n₀ : Nat} {W : World} {sv : Value} {l : List ActD} (h : RdA n₀ W sv l) : ∃ A c, sv = .slice A l.length c := by
  obtain ⟨A, c, e, _⟩ := h; exact ⟨A, c, e⟩
theorem ActAt.below {n₀ : Nat} {A B : World} {b o : Nat} {x : ActD} (h : ActAt n₀ A b o x) (hb : Below n₀ A B) (hlt : b < n₀) : ActAt n₀ B b o x := by
  obtain ⟨lv, h1, h2, h3, h4, h5, h6⟩ := h
  exact ⟨lv, (hb.cell (p := ⟨b, o, none⟩) hlt).trans h1, (hb.cell (p := ⟨b, o + 1, none⟩) hlt).trans h2, (hb.cell (p := ⟨b, o + 2, none⟩) hlt).trans h3, (hb.cell (p := ⟨b, o + 3, none⟩) hlt).trans h4, h5.below hb, h6⟩
theorem RdA.below {n₀ : Nat} {A B : World} {sv : Value} {l : List ActD} (h : RdA n₀ A sv l) (hb : Below n₀ A B) : RdA n₀ B sv l := by
  obtain ⟨a, cap, rfl, hc, hr⟩ := h
  refine ⟨a, cap, rfl, hc, fun h0 => ?_⟩
  obtain ⟨b, off, e, hlt, hcell⟩ := hr h0
  exact ⟨b, off, e, hlt, fun k hk => (hcell k hk).below hb hlt⟩
set_option maxRecDepth 1000000 in
set_option maxHeartbeats 1000000 in
theorem act1_any (w : World) (x : ActD) (n₀ : Nat) (lv : Value) (hl : RdI n₀ w lv x.lock) (hll : x.lock.length ≤ maxLen) :
    Calls Try.prog 34 #[.agg #[.int .u8 x.kind, .int .i64 x.id, .int .i64 x.lev, lv]] w fun e w' => e = .returned (.bool (decide (20 < x.lock.length))) ∧ Below w.heap.size w w' := by
  obtain ⟨A, cap, rfl, _, -⟩ := hl
  unfold maxLen at hll
  go_enter Try.func34, Try.ntmps34
  go_wp2
  go_ret
  refine ⟨?_, (Below.refl _ _).alloc (Nat.le_refl _) _⟩
  congr 2
  simp
  omega
def big (x : ActD) : Bool := decide (20 < x.lock.length)
def IdxP (w : World) (l : List ActD) (e : Ending) (w' : World) : Prop := ∃ n : Int, e = .returned (.int .i64 n) ∧ decide (0 ≤ n) = l.any big ∧ Below w.heap.size w w'
set_option maxRecDepth 1000000 in
set_option maxHeartbeats 2000000 in
theorem indexAct_any (w : World) (B : Nat) (sv : Value) (l : List ActD) (hB : B ≤ w.heap.size) (hs : RdA B w sv l) (hl : l.length ≤ 1000000) :
    Calls Try.prog 53 #[sv, .func (.func 34) #[] #[]] w (IdxP w l) := by
  obtain ⟨A, cap, rfl, hcp, hr⟩ := hs
  go_enter Try.func53, Try.ntmps53
  go_wp2_with fail
  go_loopw [8] (fun s8 wr => ∃ k : Nat, k ≤ l.length ∧ s8 = .int .i64 k ∧ Hid ((l.take k).any big = false) ∧ Below w.heap.size w wr) (fun s8 _ => l.length - (intOf s8).toNat)
  case atStart => exact ⟨0, Nat.zero_le _, rfl, Lib.hid (by simp), Below.refl _ _⟩
  case round =>
    obtain ⟨k, hk, rfl, HA, hbk⟩ := hrel
    have hszk := hbk.size
    by_cases hlt : k < l.length
    · obtain ⟨b, off, rfl, hbl, hcell⟩ := hr (by omega)
      obtain ⟨lv, c1, c2, c3, c4, c5, c6, -⟩ := (hcell k hlt).below (hbk.mono hB) hbl
      have htk : l.take (k + 1) = l.take k ++ [l[k]?.getD noAct] := by rw [List.take_succ_eq_append_getElem hlt]; simp [hlt]
      have hdr : l.drop k = l[k]?.getD noAct :: l.drop (k + 1) := by rw [List.drop_eq_getElem_cons hlt]; simp [hlt]
      generalize l[k]?.getD noAct = x at *
      have HTK := Lib.hid htk
      have HDR := Lib.hid hdr
      have HC := Lib.hid (act1_any wr x B lv c5 c6)
      obtain ⟨AL, capL, rfl, -, -⟩ := id c5
      clear htk hdr hcell hr c5
      cases hβ : decide (20 < x.lock.length) with
      | true =>
        rw [hβ] at HC
        have HB : Hid (big x = true) := Lib.hid hβ
        clear hβ
        go_wp2_with fail
        refine HC.out.mono ?_
        rintro e w1 ⟨rfl, hb1⟩
        go_wp2_with fail
        go_ret
        refine ⟨k, rfl, ?_, hbk.trans (hb1.mono hszk)⟩
        have e1 : l.any big = true := by rw [← List.take_append_drop k l, List.any_append, HDR.out]; simp [HB.out]
        rw [e1]; simp
      | false =>
        rw [hβ] at HC
        have HB : Hid (big x = false) := Lib.hid hβ
        clear hβ
        go_wp2_with fail
        refine HC.out.mono ?_
        rintro e w1 ⟨rfl, hb1⟩
        go_wp2_with fail
        exact ⟨⟨k + 1, by omega, by go_num, Lib.hid (by rw [HTK.out, List.any_append, HA.out]; simp [HB.out]), hbk.trans (hb1.mono hszk)⟩, by simp [intOf]; omega⟩
    · obtain rfl : k = l.length := by omega
      clear hr
      go_wp2_with fail
      go_ret
      have h := HA.out
      rw [List.take_length] at h
      exact ⟨-1, rfl, by rw [h]; rfl, hbk⟩
set_option maxRecDepth 1000000 in
set_option maxHeartbeats 2000000 in
theorem containsAct_any (w : World) (B : Nat) (sv : Value) (l : List ActD) (hB : B ≤ w.heap.size) (hs : RdA B w sv l) (hl : l.length ≤ 1000000) :
    Calls Try.prog 33 #[sv, .func (.func 34) #[] #[]] w fun e w' => e = .returned (.bool (l.any big)) ∧ Below w.heap.size w w' := by
  have H := Lib.hid (indexAct_any w B sv l hB hs hl)
  obtain ⟨A, cap, rfl⟩ := hs.form
  clear hs
  go_enter Try.func33, Try.ntmps33
  go_wp2_with fail
  refine H.out.mono ?_
  rintro e w1 ⟨n, rfl, hn, hb1⟩
  have HN := Lib.hid hn
  clear hn
  go_wp2_with fail
  go_ret
  refine ⟨?_, hb1⟩
  rw [← HN.out]
  rfl
section
open Go.ChangeShapes Go.WideShapes Go.Deep
theorem cellsAct : Try.prog.cellsOf 59 = 4 := by kernel_rfl
theorem cellsI3 : Try.prog.cellsOf 3 = 1 := by kernel_rfl
theorem cellsI5 : Try.prog.cellsOf 5 = 1 := by kernel_rfl
theorem cellsI33 : Try.prog.cellsOf 33 = 1 := by kernel_rfl
set_option maxRecDepth 100000 in
/-- A value that reads as a slice of integers reads as a list. -/
theorem rdI_of_trod {H : Type} {enc : TypeId × Value → H} {W : World} {fuel : Nat} {v : Value} {x : DataW H × List MemPlace} (hf : DataW.trod enc Try.prog W 0 (fun _ => true) true fuel 33 [v] = some x) : ∃ zs, RdI W.heap.size W v zs ∧ zs.length ≤ maxLen := by
  rcases open_ints Try.underlying33 Try.underlying3 cellsI3 hf with ⟨hcs, hx⟩ | ⟨a, len, cap, zs, hcs, _, hl, hm, hz, hx, hcell, hwz⟩
  · injection hcs with e
    subst e
    exact ⟨[], RdI.nil _ _, by simp⟩
  · injection hcs with e
    subst e
    simp only [if_true] at hz
    have hlen : (zs.take len).length = len := by rw [List.length_take]; omega
    refine ⟨zs.take len, ⟨some a, cap, by rw [hlen], by omega, fun h0 => ?_⟩, by omega⟩
    obtain ⟨b, off, rfl, hc⟩ := Go.ints_at hcell (by omega)
    have hb : b < W.heap.size := by
      have := hc 0 (by omega)
      rcases Nat.lt_or_ge b W.heap.size with h1 | h1
      · exact h1
      · simp [World.cell?, Array.getElem?_eq_none h1] at this
    refine ⟨b, off, rfl, hb, fun j hj => ?_⟩
    have hj' : j < zs.length := by rw [hlen] at hj; omega
    rw [hc j hj']
    have hj2 : j < len := by omega
    simp [List.getElem?_take_of_lt hj2]
set_option maxRecDepth 100000 in
/-- An argument that is a slice of calls reads as a list. -/
theorem rdA_of_arg {H : Type} {enc : TypeId × Value → H} {W : World} {base : Nat} {v : Value} {d : DataW H} {p : List MemPlace}
    (hval : Value.okWide Try.prog W .any base 56 v) (h : DataW.Trod enc Try.prog W 0 (fun _ => true) true 56 v d p) : ∃ l, RdA W.heap.size W v l ∧ l.length ≤ maxLen := by
  obtain ⟨a0, len, cap, rfl⟩ := okWide_slice Try.underlying56 hval
  obtain ⟨fuel, hf⟩ := h
  rcases open_slice Try.underlying56 hf with ⟨hcs, hx⟩ | ⟨a, len', cap', m, n, D, Pl, hcs, _, hl, hm, hmm, hx, hi⟩
  · injection hcs with e
    injection e with e1 e2 e3
    subst e1 e2 e3
    exact ⟨[], ⟨none, 0, rfl, Nat.le_refl _, fun h => by simp at h⟩, by simp⟩
  · injection hcs with e
    injection e with e1 e2 e3
    subst e1 e2 e3
    simp only [if_true] at hmm
    subst hmm
    have hcell : ∀ i, i < len → ∃ (x : ActD) (lv : Value), W.cell? (a.add (i * 4)) = some (.int .u8 x.kind) ∧ W.cell? ((a.add (i * 4)).add 1) = some (.int .i64 x.id) ∧ W.cell? ((a.add (i * 4)).add 2) = some (.int .i64 x.lev) ∧ W.cell? ((a.add (i * 4)).add 3) = some lv ∧
        RdI W.heap.size W lv x.lock ∧ x.lock.length ≤ maxLen ∧ 0 ≤ x.kind ∧ x.kind ≤ 255 ∧ (Lit.int .i64 x.id).wf = true ∧ (Lit.int .i64 x.lev).wf = true := by
      intro i hil
      obtain ⟨cs', hc, ht'⟩ := hi i (by omega)
      rw [cellsAct] at hc
      obtain ⟨ys, n', hn', hy, hlen, hyl, hfd⟩ := DataW.trod_struct Try.underlying59 ht'
      obtain ⟨_, hcl, hat⟩ := World.cells?_some hc
      match cs', hcl with
      | [c0, c1, c2, c3], _ =>
        match ys, hyl with
        | [y0, y1, y2, y3], _ =>
          have h0 : DataW.trod enc Try.prog W 0 (fun _ => true) true n' 5 (List.take (Try.prog.cellsOf 5) (List.drop 0 [c0, c1, c2, c3])) = some y0 := hfd 0 _ rfl
          have h1 : DataW.trod enc Try.prog W 0 (fun _ => true) true n' 3 (List.take (Try.prog.cellsOf 3) (List.drop 1 [c0, c1, c2, c3])) = some y1 := hfd 1 _ rfl
          have h2 : DataW.trod enc Try.prog W 0 (fun _ => true) true n' 3 (List.take (Try.prog.cellsOf 3) (List.drop 2 [c0, c1, c2, c3])) = some y2 := hfd 2 _ rfl
          have h3 : DataW.trod enc Try.prog W 0 (fun _ => true) true n' 33 (List.take (Try.prog.cellsOf 33) (List.drop 3 [c0, c1, c2, c3])) = some y3 := hfd 3 _ rfl
          rw [cellsI5] at h0
          rw [cellsI3] at h1 h2
          rw [cellsI33] at h3
          obtain ⟨z0, e0, _, w0⟩ := DataW.trod_int Try.underlying5 (show DataW.trod enc Try.prog W 0 (fun _ => true) true n' 5 [c0] = some y0 from h0)
          obtain ⟨z1, e1, _, w1⟩ := DataW.trod_int Try.underlying3 (show DataW.trod enc Try.prog W 0 (fun _ => true) true n' 3 [c1] = some y1 from h1)
          obtain ⟨z2, e2, _, w2⟩ := DataW.trod_int Try.underlying3 (show DataW.trod enc Try.prog W 0 (fun _ => true) true n' 3 [c2] = some y2 from h2)
          obtain ⟨zs, hzs, hzl⟩ := rdI_of_trod (show DataW.trod enc Try.prog W 0 (fun _ => true) true n' 33 [c3] = some y3 from h3)
          injection e0 with e0
          injection e1 with e1
          injection e2 with e2
          have g0 := hat 0 (by omega)
          have g1 := hat 1 (by omega)
          have g2 := hat 2 (by omega)
          have g3 := hat 3 (by omega)
          obtain ⟨b0, b1⟩ := u8_of_wf w0
          exact ⟨⟨z0, z1, z2, zs⟩, c3, by rw [show (a.add (i * 4)).add 0 = a.add (i * 4) by simp [Addr.add]] at g0; rw [g0, ← e0]; rfl, by rw [g1, ← e1]; rfl, by rw [g2, ← e2]; rfl, by rw [g3]; rfl, hzs, hzl, b0, b1, w1, w2⟩
    have hT : ∀ k : Nat, k ≤ len → ∃ T : List ActD, T.length = k ∧ ∀ i, i < k → ∃ lv : Value, W.cell? (a.add (i * 4)) = some (.int .u8 (T[i]?.getD noAct).kind) ∧ W.cell? ((a.add (i * 4)).add 1) = some (.int .i64 (T[i]?.getD noAct).id) ∧ W.cell? ((a.add (i * 4)).add 2) = some (.int .i64 (T[i]?.getD noAct).lev) ∧ W.cell? ((a.add (i * 4)).add 3) = some lv ∧
        RdI W.heap.size W lv (T[i]?.getD noAct).lock ∧ (T[i]?.getD noAct).lock.length ≤ maxLen ∧ 0 ≤ (T[i]?.getD noAct).kind ∧ (T[i]?.getD noAct).kind ≤ 255 ∧ (Lit.int .i64 (T[i]?.getD noAct).id).wf = true ∧ (Lit.int .i64 (T[i]?.getD noAct).lev).wf = true := by
      intro k
      induction k with
      | zero => exact fun _ => ⟨[], rfl, fun i h => by omega⟩
      | succ k ih =>
        intro hk
        obtain ⟨T, hl, hc⟩ := ih (by omega)
        obtain ⟨x, hx⟩ := hcell k (by omega)
        refine ⟨T ++ [x], by simp [hl], fun i hi => ?_⟩
        by_cases e : i < k
        · rw [List.getElem?_append_left (by omega)]; exact hc i e
        · obtain rfl : i = k := by omega
          rw [List.getElem?_append_right (by omega), hl, Nat.sub_self]; exact hx
    obtain ⟨T, hl', hc⟩ := hT len (Nat.le_refl _)
    refine ⟨T, ⟨some a, m, by rw [hl'], by omega, fun h0 => ?_⟩, by omega⟩
    rw [hl'] at h0
    obtain ⟨lv0, hc0, _⟩ := hc 0 h0
    have hspot : a.spot = none := by
      have := World.cell?_spot hc0
      simpa [Addr.add] using this
    obtain ⟨b, off, spot⟩ := a
    simp only at hspot
    subst hspot
    have hb : b < W.heap.size := by
      have := hc0
      rw [show ((⟨b, off, none⟩ : Addr).add (0 * 4)) = ⟨b, off, none⟩ by simp [Addr.add]] at this
      rcases Nat.lt_or_ge b W.heap.size with h1 | h1
      · exact h1
      · simp [World.cell?, Array.getElem?_eq_none h1] at this
    refine ⟨b, off, rfl, hb, fun k hk => ?_⟩
    obtain ⟨lv, q0, q1, q2, q3, q4⟩ := hc k (by omega)
    have e0 : ((⟨b, off, none⟩ : Addr).add (k * 4)) = ⟨b, off + k * 4, none⟩ := Go.WideShapes.add_plain _ _ _
    have e1 : ((⟨b, off + k * 4, none⟩ : Addr).add 1) = ⟨b, off + k * 4 + 1, none⟩ := Go.WideShapes.add_plain _ _ _
    have e2 : ((⟨b, off + k * 4, none⟩ : Addr).add 2) = ⟨b, off + k * 4 + 2, none⟩ := Go.WideShapes.add_plain _ _ _
    have e3 : ((⟨b, off + k * 4, none⟩ : Addr).add 3) = ⟨b, off + k * 4 + 3, none⟩ := Go.WideShapes.add_plain _ _ _
    rw [e0] at q0 q1 q2 q3
    rw [e1] at q1
    rw [e2] at q2
    rw [e3] at q3
    exact ⟨lv, q0, q1, q2, q3, q4⟩
end
end Go.Proofs.Ytcpcoomkapblcaa
open Go Go.RowKit Go.Maps
namespace Go.Proofs.Ytcpcoomkapblcaa
open Go.Shelf
attribute [local go_sem ↓] Go.wp_at_zero Go.wp_at_succ
theorem act_cells {W : World} {g : Nat} {t : TypeId} {a b c d : Value} (h : W.heap[g]? = some (.cells #[a, b, c, d] t (0, 0))) :
    W.cell? ⟨g, 0, none⟩ = some a ∧ W.cell? ⟨g, 1, none⟩ = some b ∧ W.cell? ⟨g, 2, none⟩ = some c ∧ W.cell? ⟨g, 3, none⟩ = some d := by
  simp [World.cell?, h]
theorem neq_same (x : Inf) (W : World) : (binOp .neq 103 (.agg #[.int .i64 x.id, .int .i64 x.lev, .int .i64 x.used]) (.agg #[.int .i64 x.id, .int .i64 x.lev, .int .i64 x.used])).run Try.prog W = .ok (.bool false) W := by
  rw [run_neq_struct]
  simp [go_sem]
theorem box3 {W : World} {g : Nat} {t : TypeId} {a b c : Value} (h : W.heap[g]? = some (.cells #[a, b, c] t (0, 0))) :
    (W.cell? ⟨g, 0, none⟩ = some a ∧ W.cell? ⟨g, 1, none⟩ = some b ∧ W.cell? ⟨g, 2, none⟩ = some c) ∧ W.frozen? ⟨g, 0, none⟩ = false ∧ W.frozen? ⟨g, 1, none⟩ = false ∧ W.frozen? ⟨g, 2, none⟩ = false := by
  simp [World.cell?, World.frozen?, h]
theorem infoOf_none {T : List Inf} {i : Int} (h : hasI T i = false) : infoOf T i = ⟨0, 0, 0⟩ := by
  unfold infoOf findI
  cases hf : T.find? (fun x => x.id == i) with
  | none => rfl
  | some x =>
    have h1 := List.mem_of_find?_eq_some hf
    have h2 := List.find?_some hf
    have : hasI T i = true := List.any_eq_true.2 ⟨x, h1, h2⟩
    rw [h] at this
    cases this
theorem own_but {B p m n : Nat} {w w' : World} {v : Value} {xs : List Int} (h : w.ownsRow B 3 1 v n (xs.map (.int .i64))) (hb : But p m w w') (hp : p < B) (hm : m < B) : RdI w'.heap.size w' v xs := by
  have hl := h.1
  rw [List.length_map] at hl
  rcases h.2 with ⟨rfl, h0⟩ | ⟨g, cap, cur, rfl, hbg, hh, hnc, hcm, hcs', htk⟩
  · have : xs.length = 0 := by omega
    exact ⟨none, 0, by rw [this], by omega, fun h => by omega⟩
  · have hn : n = xs.length := by omega
    subst hn
    have hlt := (h.lt g rfl).2
    refine ⟨_, cap, rfl, hnc, fun _ => ⟨g, 0, rfl, Nat.lt_of_lt_of_le hlt hb.size, fun j hj => ?_⟩⟩
    rw [World.cell?_of_block (hb.block g hlt (by omega) (by omega)), Nat.zero_add, h.cellAt j (by omega), List.getElem?_map]
    simp [hj]
set_option maxRecDepth 10000000 in
set_option maxHeartbeats 8000000 in
theorem plays_any (w : World) (sv : Value) (l : List ActD) (hs : RdA w.heap.size w sv l) (hl : l.length ≤ 60) (hbig : ∀ x ∈ l, x.lock.length ≤ 20) :
    Calls Try.prog 35 #[sv] w fun e w' => e = .returned (.bool true) ∧ Below w.heap.size w w' := by
  obtain ⟨A, cap, rfl, hcp, hr⟩ := hs
  have HBIG := Lib.hid hbig
  clear hbig
  go_enter Try.func35, Try.ntmps35
  go_wp2_with fail
  refine (new_any w).mono ?_
  rintro e w1 ⟨p, m, rfl, ht1, hp, hm, hb1⟩
  have hnb := heap_alloc_new w1 (.cells #[.slice none 0 0, .int .i64 0] 94)
  have hps : PS w (w1.alloc (.cells #[.slice none 0 0, .int .i64 0] 94)) p m w1.heap.size [] 0 (.slice none 0 0) :=
    ⟨ht1.alloc _, GoodT.nil, hnb, RdS.nil _ _, hb1.alloc hb1.size _, hp, hm, hb1.size⟩
  have HPS := Lib.hid hps
  have hsz1 := hb1.size
  clear hnb hps ht1 hb1
  go_wp2_with fail
  go_loopw [24] (fun i wr => ∃ (k : Nat) (T : List Inf) (c : Int) (sv : Value), k ≤ l.length ∧ i = .int .i64 k ∧ T.length ≤ k ∧ 0 ≤ c ∧ c ≤ k ∧ Hid (PS w wr p m w1.heap.size T c sv)) (fun i _ => 61 - (intOf i).toNat)
  case atStart => exact ⟨0, [], 0, _, Nat.zero_le _, rfl, Nat.le_refl _, by omega, by omega, HPS⟩
  case round =>
    obtain ⟨k, T, c, svk, hk, rfl, hTk, hc0, hck, HP⟩ := hrel
    by_cases hlt : k < l.length
    · obtain ⟨b, off, rfl, hbl, hcell⟩ := hr (by omega)
      have hlk : (l[k]?.getD noAct).lock.length ≤ 20 := by
        rw [List.getElem?_eq_getElem hlt]; exact HBIG.out _ (List.getElem_mem _)
      obtain ⟨lv, c1, c2, c3, c4, c5, c6, c7, c8, c9, c10⟩ := (hcell k hlt).below HP.out.bel hbl
      generalize l[k]?.getD noAct = x at *
      obtain ⟨AL, capL, rfl, -, -⟩ := id c5
      have hk0 : (0 : Int) ≤ (k : Int) := by omega
      have hk1 : (k : Int) < (l.length : Int) := by omega
      clear hcell hr
      obtain ⟨wo, rfl⟩ : ∃ y : World, y = wr := ⟨_, rfl⟩
      have hact := heap_alloc_new wo (.cells #[.int .u8 x.kind, .int .i64 x.id, .int .i64 x.lev, .slice AL x.lock.length capL] 59)
      have HACT := Lib.hid hact
      have HP0 := Lib.hid (HP.out.below ((Below.refl _ wo).alloc (Nat.le_refl _) (.cells #[.int .u8 x.kind, .int .i64 x.id, .int .i64 x.lev, .slice AL x.lock.length capL] 59)))
      have hpl : p < wo.heap.size := HP.out.tab.lt
      have hml : m < wo.heap.size := HP.out.tab.map.lt
      have hql : w1.heap.size < wo.heap.size := HP.out.qlt
      have hal : wo.heap.size < (wo.alloc (.cells #[.int .u8 x.kind, .int .i64 x.id, .int .i64 x.lev, .slice AL x.lock.length capL] 59)).heap.size := by simp
      have HNE : Hid (wo.heap.size ≠ w1.heap.size ∧ True) := Lib.hid ⟨by omega, trivial⟩
      clear hact
      go_upto_block 2 with (fail)
      go_cut [7, 8] (fun s7 s8 wx => ∃ (e : Int) (T' : List Inf) (c' : Int) (sv' : Value), s7 = .int .i64 e ∧ s8 = .int .i64 e ∧ T'.length ≤ k + 1 ∧ 0 ≤ c' ∧ c' ≤ (k : Int) + 1 ∧ Hid (PS w wx p m w1.heap.size T' c' sv') ∧
        Hid (wx.heap[wo.heap.size]? = some (.cells #[.int .u8 x.kind, .int .i64 x.id, .int .i64 x.lev, .slice AL x.lock.length capL] 59 (0, 0))))
      case first =>
        go_wp2_with fail
        · refine (put_any _ p m T c x.id x.lev HP0.out.tab c9 ⟨hc0, by omega⟩ (by omega)).mono ?_
          rintro e w2 ⟨rfl, ht2, hbut⟩
          have hbx := (hbut.block w1.heap.size HP0.out.qlt HP0.out.qp HP0.out.qm).trans HP0.out.box
          have hac := (hbut.block wo.heap.size hal (Ne.symm (Nat.ne_of_lt hpl)) (Ne.symm (Nat.ne_of_lt hml))).trans HACT.out
          obtain ⟨g0, g1, f0, f1⟩ := two_cells hbx
          obtain ⟨d0, d1, d2, d3⟩ := act_cells hac
          have hrd2 := (HP0.out.rd.but HP0.out.tab hbut (Nat.le_refl _)).more hbut.size
          obtain ⟨Ak, ck, rfl⟩ := hrd2.form
          have HR2 := Lib.hid hrd2
          have HAC := Lib.hid hac
          have HT2 := Lib.hid ht2
          have HBUT := Lib.hid hbut
          have HG := Lib.hid (HP0.out.good.put c x.id x.lev)
          clear hrd2 hac hbx ht2 hbut
          go_wp2_with fail
          refine (refPut_any w2 w2.heap.size _ T c x.id x.lev (Nat.le_refl _) HR2.out (by omega) hc0 (by omega)).mono ?_
          rintro e w3 ⟨sv3, rfl, hrd3, hb3⟩
          obtain ⟨A3, c3', rfl⟩ := hrd3.form
          obtain ⟨hbx3, hps3⟩ := HP0.out.step HT2.out HBUT.out HG.out.1 hb3 hrd3
          obtain ⟨g0', g1', f0', f1'⟩ := two_cells hbx3
          have HPS3 := Lib.hid hps3
          have HAC3 := Lib.hid (fun u v => ((Below.heap_setCell (w3.setCell ⟨w1.heap.size, 0, none⟩ u) ⟨w1.heap.size, 1, none⟩ v wo.heap.size HNE.out.1).trans (Below.heap_setCell w3 ⟨w1.heap.size, 0, none⟩ u wo.heap.size HNE.out.1)).trans ((hb3.block wo.heap.size (by have := HBUT.out.size; omega)).trans HAC.out))
          clear hrd3 hb3 hbx3 hps3 g0 g1 f0 f1 d0 d1 d2 d3
          go_wp2_with fail
          go_meet
          exact ⟨_, _, _, _, rfl, rfl, by have := HG.out.2; omega, by have := HG.out.2; omega, by have := HG.out.2; omega, HPS3, Lib.hid (HAC3.out _ _)⟩
        · refine (put_any _ p m T c x.id x.lev HP0.out.tab c9 ⟨hc0, by omega⟩ (by omega)).mono ?_
          rintro e w2 ⟨rfl, ht2, hbut⟩
          have hbx := (hbut.block w1.heap.size HP0.out.qlt HP0.out.qp HP0.out.qm).trans HP0.out.box
          have hac := (hbut.block wo.heap.size hal (Ne.symm (Nat.ne_of_lt hpl)) (Ne.symm (Nat.ne_of_lt hml))).trans HACT.out
          obtain ⟨g0, g1, f0, f1⟩ := two_cells hbx
          obtain ⟨d0, d1, d2, d3⟩ := act_cells hac
          have hrd2 := (HP0.out.rd.but HP0.out.tab hbut (Nat.le_refl _)).more hbut.size
          obtain ⟨Ak, ck, rfl⟩ := hrd2.form
          have HR2 := Lib.hid hrd2
          have HAC := Lib.hid hac
          have HT2 := Lib.hid ht2
          have HBUT := Lib.hid hbut
          have HG := Lib.hid (HP0.out.good.put c x.id x.lev)
          clear hrd2 hac hbx ht2 hbut
          go_wp2_with fail
          refine (refPut_any w2 w2.heap.size _ T c x.id x.lev (Nat.le_refl _) HR2.out (by omega) hc0 (by omega)).mono ?_
          rintro e w3 ⟨sv3, rfl, hrd3, hb3⟩
          obtain ⟨A3, c3', rfl⟩ := hrd3.form
          obtain ⟨hbx3, hps3⟩ := HP0.out.step HT2.out HBUT.out HG.out.1 hb3 hrd3
          obtain ⟨g0', g1', f0', f1'⟩ := two_cells hbx3
          have HPS3 := Lib.hid hps3
          have HAC3 := Lib.hid (fun u v => ((Below.heap_setCell (w3.setCell ⟨w1.heap.size, 0, none⟩ u) ⟨w1.heap.size, 1, none⟩ v wo.heap.size HNE.out.1).trans (Below.heap_setCell w3 ⟨w1.heap.size, 0, none⟩ u wo.heap.size HNE.out.1)).trans ((hb3.block wo.heap.size (by have := HBUT.out.size; omega)).trans HAC.out))
          clear hrd3 hb3 hbx3 hps3 g0 g1 f0 f1 d0 d1 d2 d3
          go_wp2_with fail
          go_meet
          exact ⟨_, _, _, _, rfl, rfl, by have := HG.out.2; omega, by have := HG.out.2; omega, by have := HG.out.2; omega, HPS3, Lib.hid (HAC3.out _ _)⟩
        · refine (use_any _ p m T c x.id x.lev HP0.out.tab c9 ⟨hc0, by omega⟩ (by omega)).mono ?_
          rintro e w2 ⟨rfl, ht2, hbut⟩
          have hbx := (hbut.block w1.heap.size HP0.out.qlt HP0.out.qp HP0.out.qm).trans HP0.out.box
          have hac := (hbut.block wo.heap.size hal (Ne.symm (Nat.ne_of_lt hpl)) (Ne.symm (Nat.ne_of_lt hml))).trans HACT.out
          obtain ⟨g0, g1, f0, f1⟩ := two_cells hbx
          obtain ⟨d0, d1, d2, d3⟩ := act_cells hac
          have hrd2 := (HP0.out.rd.but HP0.out.tab hbut (Nat.le_refl _)).more hbut.size
          obtain ⟨Ak, ck, rfl⟩ := hrd2.form
          have HR2 := Lib.hid hrd2
          have HAC := Lib.hid hac
          have HT2 := Lib.hid ht2
          have HBUT := Lib.hid hbut
          have HG := Lib.hid (HP0.out.good.use c x.id x.lev)
          clear hrd2 hac hbx ht2 hbut
          go_wp2_with fail
          refine (refUse_any w2 w2.heap.size _ T c x.id x.lev (Nat.le_refl _) HR2.out (by omega) hc0 (by omega) HP0.out.good.good).mono ?_
          rintro e w3 ⟨sv3, rfl, hrd3, hb3⟩
          obtain ⟨A3, c3', rfl⟩ := hrd3.form
          obtain ⟨hbx3, hps3⟩ := HP0.out.step HT2.out HBUT.out HG.out.1 hb3 hrd3
          obtain ⟨g0', g1', f0', f1'⟩ := two_cells hbx3
          have HPS3 := Lib.hid hps3
          have HAC3 := Lib.hid (fun u v => ((Below.heap_setCell (w3.setCell ⟨w1.heap.size, 0, none⟩ u) ⟨w1.heap.size, 1, none⟩ v wo.heap.size HNE.out.1).trans (Below.heap_setCell w3 ⟨w1.heap.size, 0, none⟩ u wo.heap.size HNE.out.1)).trans ((hb3.block wo.heap.size (by have := HBUT.out.size; omega)).trans HAC.out))
          clear hrd3 hb3 hbx3 hps3 g0 g1 f0 f1 d0 d1 d2 d3
          go_wp2_with fail
          go_meet
          exact ⟨_, _, _, _, rfl, rfl, by have := HG.out.2; omega, by have := HG.out.2; omega, by have := HG.out.2; omega, HPS3, Lib.hid (HAC3.out _ _)⟩
        · refine (remove_any _ p m T c x.id HP0.out.tab c9).mono ?_
          rintro e w2 ⟨rfl, ht2, hbut⟩
          have hbx := (hbut.block w1.heap.size HP0.out.qlt HP0.out.qp HP0.out.qm).trans HP0.out.box
          have hac := (hbut.block wo.heap.size hal (Ne.symm (Nat.ne_of_lt hpl)) (Ne.symm (Nat.ne_of_lt hml))).trans HACT.out
          obtain ⟨g0, g1, f0, f1⟩ := two_cells hbx
          obtain ⟨d0, d1, d2, d3⟩ := act_cells hac
          have hrd2 := (HP0.out.rd.but HP0.out.tab hbut (Nat.le_refl _)).more hbut.size
          obtain ⟨Ak, ck, rfl⟩ := hrd2.form
          have HR2 := Lib.hid hrd2
          have HAC := Lib.hid hac
          have HT2 := Lib.hid ht2
          have HBUT := Lib.hid hbut
          have HG := Lib.hid (HP0.out.good.rem x.id)
          clear hrd2 hac hbx ht2 hbut
          go_wp2_with fail
          refine (refRemove_any w2 w2.heap.size _ T c x.id (Nat.le_refl _) HR2.out (by omega)).mono ?_
          rintro e w3 ⟨sv3, rfl, hrd3, hb3⟩
          obtain ⟨A3, c3', rfl⟩ := hrd3.form
          obtain ⟨hbx3, hps3⟩ := HP0.out.step HT2.out HBUT.out HG.out.1 hb3 hrd3
          obtain ⟨g0', g1', f0', f1'⟩ := two_cells hbx3
          have HPS3 := Lib.hid hps3
          have HAC3 := Lib.hid (fun u v => ((Below.heap_setCell (w3.setCell ⟨w1.heap.size, 0, none⟩ u) ⟨w1.heap.size, 1, none⟩ v wo.heap.size HNE.out.1).trans (Below.heap_setCell w3 ⟨w1.heap.size, 0, none⟩ u wo.heap.size HNE.out.1)).trans ((hb3.block wo.heap.size (by have := HBUT.out.size; omega)).trans HAC.out))
          clear hrd3 hb3 hbx3 hps3 g0 g1 f0 f1 d0 d1 d2 d3
          go_wp2_with fail
          go_meet
          exact ⟨_, _, _, _, rfl, rfl, by have := HG.out.2; omega, by have := HG.out.2; omega, by have := HG.out.2; omega, HPS3, Lib.hid (HAC3.out _ _)⟩
        · have hlk0 : RdI (wo.alloc (.cells #[.int .u8 x.kind, .int .i64 x.id, .int .i64 x.lev, .slice AL x.lock.length capL] 59)).heap.size (wo.alloc (.cells #[.int .u8 x.kind, .int .i64 x.id, .int .i64 x.lev, .slice AL x.lock.length capL] 59)) (.slice AL x.lock.length capL) x.lock :=
            (c5.below ((Below.refl _ wo).alloc (Nat.le_refl _) _ |>.mono (by have := HP.out.bel.size; omega))).more (by have := HP.out.bel.size; simp; omega)
          refine (CloneInt_any _ _ _ x.lock hlk0 (by omega)).mono ?_
          rintro e w2 ⟨v9, rfl, hown9, hb2⟩
          obtain ⟨A9, c9', rfl⟩ := own_shape hown9
          have HP2 := Lib.hid (HP0.out.below hb2)
          have HO9 := Lib.hid hown9
          clear hlk0 hown9
          go_wp2_with fail
          refine (reduce_any w2 p m T c HP2.out.tab (by omega) _ x.lock (RdI.of_own HO9.out) (by omega)).mono ?_
          rintro e w3 ⟨v10, rfl, hown10, ht3, hbut⟩
          have hp2 := HP2.out
          have hml2 : m < (wo.alloc (.cells #[.int .u8 x.kind, .int .i64 x.id, .int .i64 x.lev, .slice AL x.lock.length capL] 59)).heap.size := by omega
          have hpl2 : p < (wo.alloc (.cells #[.int .u8 x.kind, .int .i64 x.id, .int .i64 x.lev, .slice AL x.lock.length capL] 59)).heap.size := by omega
          have hsz2 := hb2.size
          have hbx := (hbut.block w1.heap.size hp2.qlt hp2.qp hp2.qm).trans hp2.box
          have hac := (hbut.block wo.heap.size (by omega) (Ne.symm (Nat.ne_of_lt hpl)) (Ne.symm (Nat.ne_of_lt hml))).trans ((hb2.block wo.heap.size hal).trans HACT.out)
          have hcl3 : RdI w3.heap.size w3 (.slice A9 x.lock.length c9') x.lock := own_but HO9.out hbut hpl2 hml2
          have hg10 := RdI.of_own hown10
          have hlk3 : RdI w3.heap.size w3 (.slice AL x.lock.length capL) x.lock := (c5.below (hbut.below (((Below.refl w.heap.size wo).alloc HP.out.bel.size _).trans (hb2.mono (by have := HP.out.bel.size; omega))) HP.out.hp HP.out.hm (by have := HP.out.bel.size; omega))).more (by have := HP.out.bel.size; have := hbut.size; omega)
          have hrd3 := (hp2.rd.but hp2.tab hbut (Nat.le_refl _)).more hbut.size
          obtain ⟨A10, c10', rfl⟩ := own_shape hown10
          obtain ⟨Ak, ck, rfl⟩ := hrd3.form
          obtain ⟨g0, g1, f0, f1⟩ := two_cells hbx
          obtain ⟨d0, d1, d2, d3⟩ := act_cells hac
          have HR3 := Lib.hid hrd3
          have HAC := Lib.hid hac
          have HT3 := Lib.hid ht3
          have HBUT := Lib.hid hbut
          have HG := Lib.hid (HP0.out.good.red x.lock)
          have HL3 := Lib.hid hlk3
          have HC3 := Lib.hid hcl3
          have HG3 := Lib.hid hg10
          clear hrd3 hac hbx ht3 hbut hlk3 hcl3 hg10 hown10 hp2
          go_wp2_with fail
          refine (refReduce_any w3 w3.heap.size _ T c _ x.lock (Nat.le_refl _) HR3.out (by omega) HL3.out (by omega)).mono ?_
          rintro e w4 ⟨sv4, v4, rfl, hrd4, hv4, hb4⟩
          obtain ⟨A4, c4', rfl⟩ := hrd4.form
          obtain ⟨AV, nV, cV, rfl⟩ := hv4.form
          have hb45 := hb4.alloc hb4.size (.cells #[.slice A4 (redT T x.lock).length c4', .int .i64 c] 94)
          have hb5 := (Below.refl w4.heap.size w4).alloc (Nat.le_refl _) (.cells #[.slice A4 (redT T x.lock).length c4', .int .i64 c] 94)
          have hn5 := heap_alloc_new w4 (.cells #[.slice A4 (redT T x.lock).length c4', .int .i64 c] 94)
          have HRD5 := Lib.hid ((hrd4.below hb5).more hb5.size)
          have hv5 := (hv4.below hb5).more hb5.size
          have hg5 := (HG3.out.below hb45).more hb45.size
          have HC5 := Lib.hid ((HC3.out.below hb45).more hb45.size)
          have HL5 := Lib.hid ((HL3.out.below hb45).more hb45.size)
          have hac5 := (hb45.block wo.heap.size (by have := HBUT.out.size; omega)).trans HAC.out
          have hbx5 := (hb5.block w1.heap.size (by have := HBUT.out.size; have := hb4.size; omega)).trans (HP2.out.step HT3.out HBUT.out HG.out.1 hb4 hrd4).1
          go_wp2_with fail
          have hlt5 : w4.heap.size < (w4.alloc (.cells #[.slice A4 (redT T x.lock).length c4', .int .i64 c] 94)).heap.size := by simp
          have hsz4 := hb4.size
          have HB45 := Lib.hid hb45
          generalize w4.alloc (.cells #[.slice A4 (redT T x.lock).length c4', .int .i64 c] 94) = w5 at *
          have HN5 := Lib.hid hn5
          have HAC5 := Lib.hid hac5
          have HBX5 := Lib.hid hbx5
          clear hb45 hb5 hn5 hac5 hbx5 hb4 hrd4 hv4 HG3 HC3 HL3 HR3 HAC d0 d1 d2 d3 g0 g1 f0 f1
          have hgz : (sortZ (redGs T x.lock)).length ≤ 1000000 := by
            have e1 : (sortZ (redGs T x.lock)).length = (redGs T x.lock).length := (List.mergeSort_perm _ _).length_eq
            have e2 := redT_len HP0.out.good.apart x.lock
            omega
          refine (EqualInt_any w5 _ _ _ _ _ _ hg5 hv5 hgz hgz).mono ?_
          rintro e w6 ⟨rfl, q1, hw6⟩
          rw [beq_self_eq_true]
          have hb56 : Below w5.heap.size w5 w6 := by rw [hw6]; exact below_drewQ (Below.refl _ _) q1
          obtain ⟨d0, d1, d2, d3⟩ := act_cells ((hb56.block wo.heap.size (by have := HBUT.out.size; omega)).trans HAC5.out)
          have hc6 := HC5.out.below hb56
          have hl6 := HL5.out.below hb56
          have HB56 := Lib.hid hb56
          clear hw6 hb56 hg5 hv5
          go_wp2_with fail
          refine (EqualInt_any w6 _ _ _ _ _ _ hc6 hl6 (by omega) (by omega)).mono ?_
          rintro e w7 ⟨rfl, q2, hw7⟩
          rw [beq_self_eq_true]
          have hb67 : Below w6.heap.size w6 w7 := by rw [hw7]; exact below_drewQ (Below.refl _ _) q2
          have hb57 := HB56.out.trans (hb67.mono HB56.out.size)
          have hn7 := (hb57.block w4.heap.size hlt5).trans HN5.out
          have hbx7 := (hb57.block w1.heap.size (by have := HBUT.out.size; omega)).trans HBX5.out
          obtain ⟨n0, n1, -, -⟩ := two_cells hn7
          obtain ⟨g0, g1, f0, f1⟩ := two_cells hbx7
          have hps7 := (HP2.out.step HT3.out HBUT.out HG.out.1 (HB45.out.trans (hb57.mono HB45.out.size)) ((HRD5.out.below hb57).more hb57.size)).2
          have HPS7 := Lib.hid hps7
          have HAC7 := Lib.hid (fun u v => ((Below.heap_setCell (w7.setCell ⟨w1.heap.size, 0, none⟩ u) ⟨w1.heap.size, 1, none⟩ v wo.heap.size HNE.out.1).trans (Below.heap_setCell w7 ⟨w1.heap.size, 0, none⟩ u wo.heap.size HNE.out.1)).trans ((hb57.block wo.heap.size (by have := HBUT.out.size; omega)).trans HAC5.out))
          clear hw7 hb67 hb57 hn7 hbx7 hps7 hc6 hl6 d0 d1 d2 d3
          go_wp2_with fail
          go_meet
          exact ⟨_, _, _, _, rfl, rfl, by have := HG.out.2; omega, by omega, by omega, HPS7, Lib.hid (HAC7.out _ _)⟩
        · go_meet
          exact ⟨0, T, c, svk, rfl, rfl, by omega, hc0, by omega, HP0, HACT⟩
      case rest =>
        obtain ⟨e, T', c', sv', rfl, rfl, hT', hc0', hc1', HP', HACT'⟩ := hcut
        rename World => wx
        have hp' := HP'.out
        obtain ⟨Ak, ck, rfl⟩ := hp'.rd.form
        obtain ⟨g0, g1, -, -⟩ := two_cells hp'.box
        have hqx : w1.heap.size < wx.heap.size := hp'.qlt
        have hax : wo.heap.size < wx.heap.size := (Array.getElem?_eq_some_iff.1 HACT'.out).1
        have hbd : Below wx.heap.size wx wx.drew := (Below.refl _ _).drew
        have HC2 : Hid (∀ W, Below wx.heap.size wx W → W.cell? ⟨w1.heap.size, 0, none⟩ = some (.slice Ak T'.length ck) ∧ W.cell? ⟨w1.heap.size, 1, none⟩ = some (.int .i64 c')) :=
          Lib.hid fun W hW => ⟨(World.cell?_of_block (hW.block w1.heap.size hqx)).trans g0, (World.cell?_of_block (hW.block w1.heap.size hqx)).trans g1⟩
        have HTL : Hid (T'.length ≤ 300) := Lib.hid (by omega)
        have HTS : Hid ((sortI T').length ≤ 1000000) := Lib.hid (by have e1 : (sortI T').length = T'.length := (List.mergeSort_perm _ _).length_eq; omega)
        have HRD : Hid (∀ W, Below wx.heap.size wx W → RdS W.heap.size W (.slice Ak T'.length ck) T') := Lib.hid fun W hW => (hp'.rd.below hW).more hW.size
        clear hp' c1 c2 c3 c4 c5 HP HP0 HACT
        go_upto_region 27 with (fail)
        go_region_held3 (fun w' => w'.cell? ⟨w1.heap.size, 0, none⟩ = some (.slice Ak T'.length ck) ∧ w'.cell? ⟨w1.heap.size, 1, none⟩ = some (.int .i64 c') ∧ Below wx.heap.size wx w')
          (simp [*])
          (first
            | (go_at_call 19; refine (len_any _ p m T' c' (HP'.out.tab.below (by assumption))).mono ?_; rintro e w9 ⟨rfl, rfl⟩)
            | (go_at_call 16; refine (clock_any _ p m T' c' (HP'.out.tab.below (by assumption))).mono ?_; rintro e w9 ⟨rfl, rfl⟩)
            | (go_at_call 17; refine (infos_any _ p m T' c' (HP'.out.tab.below (by assumption)) HTL.out).mono ?_; rintro e w9 ⟨v9, rfl, hown9, hb9⟩; have hb10 := Below.trans (by assumption : Below wx.heap.size wx _) (hb9.mono (Below.size (by assumption))); obtain ⟨z0, z1⟩ := HC2.out _ hb10; have HI := Lib.hid (RdS.of_own hown9); clear hown9 hb9)
            | (go_at_call 59; refine (refSorted_any _ _ _ T' (Nat.le_refl _) (HRD.out _ (by assumption)) (by have := HTL.out; omega)).mono ?_; rintro e w10 ⟨v10, rfl, hown10, hb11⟩; have hb12 := Below.trans (by assumption : Below wx.heap.size wx _) (hb11.mono (Below.size (by assumption))); obtain ⟨z2, z3⟩ := HC2.out _ hb12; have HI2 := Lib.hid ((HI.out.below hb11).more hb11.size); have HJ2 := Lib.hid (RdS.of_ownE hown10); clear hown10 hb11 hb10)
            | (go_at_call 58; refine (same_same _ _ _ _ _ (sortI T') (Nat.le_refl _) (Nat.le_refl _) HI2.out HJ2.out HTS.out).mono ?_; rintro e w11 ⟨rfl, hb13⟩; have hb14 := Below.trans (by assumption : Below wx.heap.size wx _) (hb13.mono (Below.size (by assumption))); obtain ⟨z4, z5⟩ := HC2.out _ hb14; clear hb13 hb12)
            | fail)
        rename World => wq
        have hp11 := HP'.out.below hb14
        have HPB := Lib.hid hp11
        have HAB := Lib.hid ((hb14.block wo.heap.size hax).trans HACT'.out)
        obtain ⟨d0, d1, d2, d3⟩ := act_cells HAB.out
        have hsq := hb14.size
        clear z0 z1 z2 z3 z4 z5 g0 g1 hbd HC2 hp11 hb14 HI HI2 HJ2 HRD HACT' HP'
        go_upto_region 29 with (fail)
        go_wp2_with fail
        refine (info_any _ p m T' c' x.id HPB.out.tab c9).mono ?_
        rintro e w12 ⟨he, -, hb12⟩
        rw [Inf.val] at he
        subst he
        have hbA := hb12.alloc hb12.size (.cells #[.int .i64 (infoOf T' x.id).id, .int .i64 (infoOf T' x.id).lev, .int .i64 (infoOf T' x.id).used] 32)
        have hnA := heap_alloc_new w12 (.cells #[.int .i64 (infoOf T' x.id).id, .int .i64 (infoOf T' x.id).lev, .int .i64 (infoOf T' x.id).used] 32)
        have hltA : w12.heap.size < (w12.alloc (.cells #[.int .i64 (infoOf T' x.id).id, .int .i64 (infoOf T' x.id).lev, .int .i64 (infoOf T' x.id).used] 32)).heap.size := by simp
        have HPC := Lib.hid (HPB.out.below hbA)
        have HAC := Lib.hid ((hbA.block wo.heap.size (by omega)).trans HAB.out)
        clear d0 d1 d2 d3
        go_upto_region 30 with (fail)
        generalize w12.alloc (.cells #[.int .i64 (infoOf T' x.id).id, .int .i64 (infoOf T' x.id).lev, .int .i64 (infoOf T' x.id).used] 32) = w13 at *
        have hpc := HPC.out
        obtain ⟨d0, d1, d2, d3⟩ := act_cells HAC.out
        obtain ⟨g0, g1, -, -⟩ := two_cells hpc.box
        have hrdc := hpc.rd
        have HNA := Lib.hid hnA
        clear hnA hbA hb12 HPB HAB hpc
        go_wp2_with fail
        refine (refFind_any w13 _ _ T' c' x.id (Nat.le_refl _) hrdc (by have := HTL.out; omega)).mono ?_
        rintro e w14 ⟨rfl, hb14⟩
        have hp14 := HPC.out.below hb14
        have hnB := (hb14.block w12.heap.size hltA).trans HNA.out
        have hltB : w12.heap.size < w14.heap.size := Nat.lt_of_lt_of_le hltA hb14.size
        have HP14 := Lib.hid hp14
        have HNB := Lib.hid hnB
        clear d0 d1 d2 d3 g0 g1 hrdc hb14 hp14 hnB HPC HAC HNA hltA
        have hbZ := (Below.refl _ w14).alloc (Nat.le_refl _) (.cells #[.int .i64 0, .int .i64 0, .int .i64 0] 103)
        have hnZ := heap_alloc_new w14 (.cells #[.int .i64 0, .int .i64 0, .int .i64 0] 103)
        have hltZ : w14.heap.size < (w14.alloc (.cells #[.int .i64 0, .int .i64 0, .int .i64 0] 103)).heap.size := by simp
        have HPZ := Lib.hid (HP14.out.below hbZ)
        have HNC := Lib.hid ((hbZ.block w12.heap.size hltB).trans HNB.out)
        go_upto_region 32 with (fail)
        generalize w14.alloc (.cells #[.int .i64 0, .int .i64 0, .int .i64 0] 103) = w15 at *
        obtain ⟨hx1, hx2, hx3, hx4⟩ := findX_has T' x.id 0
        obtain ⟨⟨n0, n1, n2⟩, -⟩ := box3 HNC.out
        obtain ⟨⟨m0, m1, m2⟩, fz0, fz1, fz2⟩ := box3 hnZ
        have hpz := HPZ.out
        obtain ⟨g0, g1, -, -⟩ := two_cells hpz.box
        have hns := neq_same (infoOf T' x.id)
        by_cases hh : hasI T' x.id = true
        · obtain ⟨j, hj, hfx, hat⟩ := findX_at T' x.id 0 hh
          rw [Nat.zero_add] at hfx
          rw [hfx, hh]
          obtain ⟨A, cap', e9, hcp9, hr9⟩ := hpz.rd
          injection e9 with e1 e2 e3
          subst e1 e3
          obtain ⟨b9, o9, rfl, hb9, hcell9⟩ := hr9 (by omega)
          have hj0 : (0 : Int) ≤ (j : Int) := by omega
          have hj1 : (j : Int) < (T'.length : Int) := by omega
          obtain ⟨y0, y1, y2⟩ := hcell9 j hj
          rw [hat] at y0 y1 y2
          have HPF : Hid (∀ u v z, PS w (((w15.setCell ⟨w14.heap.size, 0, none⟩ u).setCell ⟨w14.heap.size, 1, none⟩ v).setCell ⟨w14.heap.size, 2, none⟩ z) p m w1.heap.size T' c' (.slice (some ⟨b9, o9, none⟩) T'.length ck)) :=
            Lib.hid fun u v z => HP14.out.below (((hbZ.setCell (p := ⟨w14.heap.size, 0, none⟩) (Nat.le_refl _) u).setCell (p := ⟨w14.heap.size, 1, none⟩) (Nat.le_refl _) v).setCell (p := ⟨w14.heap.size, 2, none⟩) (Nat.le_refl _) z)
          have hne : w12.heap.size ≠ w14.heap.size := Nat.ne_of_lt hltB
          generalize infoOf T' x.id = y at *
          clear hcell9 hr9 hpz hat hx1 hx2 hx3 hx4 hfx hbZ HNB HP14
          go_wp2_with fail
          exact ⟨⟨k + 1, T', c', _, by omega, by go_num, hT', hc0', by omega, HPF.out _ _ _⟩, by simp [intOf]; omega⟩
        · have hf : hasI T' x.id = false := by simpa using hh
          rw [infoOf_none hf] at n0 n1 n2 hns
          have hneg := hx2.2 hf
          rw [hf]
          simp only [] at n0 n1 n2 hns
          generalize findX T' x.id 0 = fx at *
          clear hpz hx1 hx2 hx3 hx4 hbZ HNB HP14 hh
          go_wp2_with fail
          exact ⟨⟨k + 1, T', c', _, by omega, by go_num, hT', hc0', by omega, HPZ⟩, by simp [intOf]; omega⟩
    · obtain rfl : k = l.length := by omega
      go_wp2_with fail
      go_ret
      exact ⟨rfl, HP.out.bel⟩
end Go.Proofs.Ytcpcoomkapblcaa
open Go Go.RowKit Go.Maps
namespace Go.Proofs.Ytcpcoomkapblcaa
open Go.Shelf
theorem RdA.more {n₀ n₁ : Nat} {A : World} {sv : Value} {l : List ActD} (h : RdA n₀ A sv l) (hn : n₀ ≤ n₁) : RdA n₁ A sv l := by
  obtain ⟨a, cap, rfl, hc, hr⟩ := h
  refine ⟨a, cap, rfl, hc, fun h0 => ?_⟩
  obtain ⟨b, off, e, hlt, hcell⟩ := hr h0
  refine ⟨b, off, e, by omega, fun k hk => ?_⟩
  obtain ⟨lv, h1, h2, h3, h4, h5, h6⟩ := hcell k hk
  exact ⟨lv, h1, h2, h3, h4, h5.more hn, h6⟩
set_option maxRecDepth 1000000 in
set_option maxHeartbeats 1000000 in
theorem reducePlays_any (w : World) (v : Value) (l : List ActD) (hr : RdA w.heap.size w v l) (hT : l.length ≤ maxLen) :
    Calls Try.prog 9 #[v] w fun e w' => e = .returned (.bool true) ∧ Below w.heap.size w w' := by
  obtain ⟨A, c, rfl⟩ := hr.form
  unfold maxLen at hT
  by_cases h : l.length ≤ 60
  · have h1 : decide ((60 : Int) < (l.length : Int)) = false := decide_eq_false (by omega)
    have HC := Lib.hid (containsAct_any w _ _ l (Nat.le_refl _) hr (by omega))
    cases hb : l.any big with
    | true =>
      rw [hb] at HC
      clear hr hb
      go_enter Try.func9, Try.ntmps9
      go_wp2_with fail
      refine HC.out.mono ?_
      rintro e w1 ⟨rfl, hb1⟩
      go_wp2_with fail
      refine (awake_any _).mono ?_
      rintro e w2 ⟨rfl, hb2⟩
      go_wp2_with fail
      go_ret
      exact ⟨rfl, hb1.trans (hb2.mono hb1.size)⟩
    | false =>
      have hbig : ∀ x ∈ l, x.lock.length ≤ 20 := by
        intro x hx
        have := (List.any_eq_false.1 hb) x hx
        unfold big at this
        simpa using this
      have HP : Hid (∀ W, Below w.heap.size w W → Calls Try.prog 35 #[.slice A l.length c] W fun e w' => e = .returned (.bool true) ∧ Below W.heap.size W w') :=
        Lib.hid fun W hW => plays_any W _ l (hr.below hW |>.more hW.size) h hbig
      rw [hb] at HC
      clear hr hb hbig
      go_enter Try.func9, Try.ntmps9
      go_wp2_with fail
      refine HC.out.mono ?_
      rintro e w1 ⟨rfl, hb1⟩
      have hb1' := hb1
      go_wp2_with fail
      refine (HP.out _ hb1').mono ?_
      rintro e w2 ⟨rfl, hb2⟩
      go_wp2_with fail
      refine (awake_any _).mono ?_
      rintro e w3 ⟨rfl, hb3⟩
      go_wp2_with fail
      go_ret
      exact ⟨rfl, hb1'.trans ((hb2.trans (hb3.mono hb2.size)).mono hb1'.size)⟩
  · have h1 : decide ((60 : Int) < (l.length : Int)) = true := decide_eq_true (by omega)
    clear hr
    go_enter Try.func9, Try.ntmps9
    go_wp2_with fail
    refine (awake_any _).mono ?_
    rintro e w2 ⟨rfl, hb2⟩
    go_wp2_with fail
    go_ret
    exact ⟨rfl, hb2⟩
end Go.Proofs.Ytcpcoomkapblcaa
open Go Go.RowKit Go.Maps
namespace Go.Proofs.Ytcpcoomkapblcaa
open Go.Shelf
def encA (y : ActD × Value) : List Value := [.int .u8 y.1.kind, .int .i64 y.1.id, .int .i64 y.1.lev, y.2]
instance instInhActV : Inhabited (ActD × Value) := ⟨(noAct, .slice none 0 0)⟩
structure OkA (n₀ : Nat) (W : World) (y : ActD × Value) : Prop where
  lock : RdI n₀ W y.2 y.1.lock
  len : y.1.lock.length ≤ 20
  kind : 0 ≤ y.1.kind ∧ y.1.kind ≤ 255
  id : (Lit.int .i64 y.1.id).wf = true
  lev : (Lit.int .i64 y.1.lev).wf = true
theorem OkA.below {n₀ : Nat} {A B : World} {y : ActD × Value} (h : OkA n₀ A y) (hb : Below n₀ A B) : OkA n₀ B y := ⟨h.lock.below hb, h.len, h.kind, h.id, h.lev⟩
theorem OkA.more {n₀ n₁ : Nat} {A : World} {y : ActD × Value} (h : OkA n₀ A y) (hn : n₀ ≤ n₁) : OkA n₁ A y := ⟨h.lock.more hn, h.len, h.kind, h.id, h.lev⟩
theorem encA_len (M : List (ActD × Value)) : (M.flatMap encA).length = M.length * 4 := flat_length (enc := encA) (k := 4) (fun _ => rfl) M
/-- Cells that lie one after the other read as the calls. -/
theorem rdA_of_cells {W : World} {n₀ b cap : Nat} {M : List (ActD × Value)} (hb : b < n₀) (hc : M.length ≤ cap) (hcell : ∀ j u, (M.flatMap encA)[j]? = some u → W.cell? ⟨b, j, none⟩ = some u) (hM : ∀ y ∈ M, OkA n₀ W y) :
    RdA n₀ W (.slice (some ⟨b, 0, none⟩) M.length cap) (M.map Prod.fst) := by
  refine ⟨_, cap, by rw [List.length_map], by rw [List.length_map]; exact hc, fun _ => ⟨b, 0, rfl, hb, fun k hk => ?_⟩⟩
  rw [List.length_map] at hk
  have e1 : (M.map Prod.fst)[k]?.getD noAct = (M[k]).1 := by simp [hk]
  rw [e1]
  have h := hM _ (List.getElem_mem hk)
  have e : ∀ r, (hr : r < 4) → W.cell? ⟨b, 0 + k * 4 + r, none⟩ = (encA M[k])[r]? := fun r hr => by
    have hg := flat_get (enc := encA) (k := 4) (fun _ => rfl) (by decide) M (k * 4 + r) (by omega)
    have e2 : (k * 4 + r) / 4 = k := by omega
    have e3 : (k * 4 + r) % 4 = r := by omega
    rw [e2, e3, show M[k]?.getD default = M[k] by simp [hk]] at hg
    rw [Nat.zero_add]
    have hlt : r < (encA M[k]).length := hr
    rw [List.getElem?_eq_getElem hlt] at hg ⊢
    exact hcell _ _ hg
  exact ⟨(M[k]).2, e 0 (by decide), e 1 (by decide), e 2 (by decide), e 3 (by decide), h.lock, Nat.le_trans h.len (by decide), h.kind.1, h.kind.2, h.id, h.lev⟩
theorem rdA_of_own {w : World} {base n : Nat} {v : Value} {M : List (ActD × Value)} (h : w.ownsRow base 59 4 v n (M.flatMap encA)) (hM : ∀ y ∈ M, OkA w.heap.size w y) : RdA w.heap.size w v (M.map Prod.fst) := by
  have hl := h.1
  rw [encA_len] at hl
  have h' := h
  rcases h.2 with ⟨rfl, h0⟩ | ⟨g, cap, cur, rfl, hbg, hh, hnc, hcm, hcs', htk⟩
  · have : M.length = 0 := by omega
    obtain rfl := List.eq_nil_of_length_eq_zero this
    exact ⟨none, 0, rfl, Nat.le_refl _, fun h => by simp at h⟩
  · have hn : n = M.length := by omega
    subst hn
    exact rdA_of_cells (h.lt g rfl).2 hnc (fun j u hu => by rw [h'.cellAt j (by have := (List.getElem?_eq_some_iff.1 hu).1; rw [encA_len] at this; exact this)]; exact hu) hM
theorem rdA_lit (w : World) (M : List (ActD × Value)) (t : TypeId) (hM : ∀ y ∈ M, OkA w.heap.size w y) : RdA (w.alloc (.cells (M.flatMap encA).toArray t)).heap.size (w.alloc (.cells (M.flatMap encA).toArray t)) (.slice (some ⟨w.heap.size, 0, none⟩) M.length M.length) (M.map Prod.fst) := by
  have hb := (Below.refl _ w).alloc (Nat.le_refl _) (.cells (M.flatMap encA).toArray t)
  refine rdA_of_cells (by simp) (Nat.le_refl _) (fun j u hu => ?_) (fun y hy => ((hM y hy).below hb).more hb.size)
  have := World.alloc_heap_new w (.cells (M.flatMap encA).toArray t)
  unfold World.cell?
  rw [this]
  simpa using hu
theorem rdS_lit (w : World) (M : List Inf) (t : TypeId) : RdS (w.alloc (.cells (M.flatMap Inf.enc).toArray t)).heap.size (w.alloc (.cells (M.flatMap Inf.enc).toArray t)) (.slice (some ⟨w.heap.size, 0, none⟩) M.length M.length) M := by
  refine ⟨_, M.length, rfl, Nat.le_refl _, fun _ => ⟨w.heap.size, 0, rfl, by simp, fun k hk => ?_⟩⟩
  have hh := World.alloc_heap_new w (.cells (M.flatMap Inf.enc).toArray t)
  have e : ∀ r, r < 3 → (w.alloc (.cells (M.flatMap Inf.enc).toArray t)).cell? ⟨w.heap.size, 0 + k * 3 + r, none⟩ = (Inf.enc (M[k]?.getD ⟨0, 0, 0⟩))[r]? := fun r hr => by
    have hg := flat_get (enc := Inf.enc) (k := 3) (fun _ => rfl) (by decide) M (k * 3 + r) (by omega)
    have e1 : (k * 3 + r) / 3 = k := by omega
    have e2 : (k * 3 + r) % 3 = r := by omega
    rw [e1, e2] at hg
    rw [Nat.zero_add]
    unfold World.cell?
    rw [hh]
    simpa [hk] using hg
  exact ⟨e 0 (by decide), e 1 (by decide), e 2 (by decide)⟩
end Go.Proofs.Ytcpcoomkapblcaa
open Go Go.RowKit Go.Maps
namespace Go.Proofs.Ytcpcoomkapblcaa
open Go.Shelf
attribute [local go_sem] Oper.semAt_some
theorem nil_reduce (w : World) : Calls Try.prog 18 #[.pointer none, .slice none 0 0] w fun e w' => e = .returned (.tuple #[.slice none 0 0, .int .i64 1]) ∧ Below w.heap.size w w' := by
  go_enter Try.func18, Try.ntmps18
  go_wp2
  go_returns
  exact ⟨rfl, ((Below.refl _ w).alloc (Nat.le_refl _) _)⟩
theorem nil_conflict (w : World) : Calls Try.prog 22 #[.pointer none] w fun e w' => e = .returned (.tuple #[.bool false, .int .i64 1]) ∧ w = w' := by
  go_enter Try.func22, Try.ntmps22
  go_wp2
  go_returns
  exact ⟨rfl, rfl⟩
theorem nil_info (w : World) : Calls Try.prog 32 #[.pointer none, .int .i64 1] w fun e w' => e = .returned (.tuple #[.agg #[.int .i64 0, .int .i64 0, .int .i64 0], .bool false]) ∧ Below w.heap.size w w' := by
  go_enter Try.func32, Try.ntmps32
  go_wp2
  go_returns
  exact ⟨rfl, ((Below.refl _ w).alloc (Nat.le_refl _) _)⟩
theorem nil_put (w : World) : Calls Try.prog 28 #[.pointer none, .int .i64 1, .int .i64 1] w fun e w' => e = .returned (.int .i64 1) ∧ w = w' := by
  go_enter Try.func28, Try.ntmps28
  go_wp2
  go_ret
  exact ⟨rfl, rfl⟩
theorem nil_use (w : World) : Calls Try.prog 29 #[.pointer none, .int .i64 1, .int .i64 1] w fun e w' => e = .returned (.int .i64 1) ∧ w = w' := by
  go_enter Try.func29, Try.ntmps29
  go_wp2
  go_ret
  exact ⟨rfl, rfl⟩
theorem nil_remove (w : World) : Calls Try.prog 30 #[.pointer none, .int .i64 1] w fun e w' => e = .returned (.int .i64 1) ∧ w = w' := by
  go_enter Try.func30, Try.ntmps30
  go_wp2
  go_ret
  exact ⟨rfl, rfl⟩
theorem nil_len (w : World) : Calls Try.prog 19 #[.pointer none] w fun e w' => e = .returned (.int .i64 0) ∧ w = w' := by
  go_enter Try.func19, Try.ntmps19
  go_wp2
  go_ret
  exact ⟨rfl, rfl⟩
theorem nil_clock (w : World) : Calls Try.prog 16 #[.pointer none] w fun e w' => e = .returned (.int .i64 0) ∧ w = w' := by
  go_enter Try.func16, Try.ntmps16
  go_wp2
  go_ret
  exact ⟨rfl, rfl⟩
theorem nil_left (w : World) : Calls Try.prog 21 #[.pointer none] w fun e w' => e = .returned (.int .i64 0) ∧ w = w' := by
  go_enter Try.func21, Try.ntmps21
  go_wp2
  go_ret
  exact ⟨rfl, rfl⟩
theorem nil_count (w : World) : Calls Try.prog 23 #[.pointer none] w fun e w' => e = .returned (.int .i64 0) ∧ w = w' := by
  go_enter Try.func23, Try.ntmps23
  go_wp2
  go_ret
  exact ⟨rfl, rfl⟩
theorem nil_sorted (w : World) : Calls Try.prog 66 #[.pointer none] w fun e w' => e = .returned (.slice none 0 0) ∧ w = w' := by
  go_enter Try.func66, Try.ntmps66
  go_wp2
  go_ret
  exact ⟨rfl, rfl⟩
theorem nil_all (w : World) :
    Calls Try.prog 45 #[.pointer none] w fun e w' => e = .returned (.func (.func 65) #[] #[.pointer (some ⟨w.heap.size, 0, none⟩)]) ∧ w' = w.alloc (.cells #[.pointer none] 25) := by
  go_enter Try.func45, Try.ntmps45
  go_wp2
  go_ret
  exact ⟨rfl, rfl⟩
theorem all1_nil (n : Nat) (hn : 1 ≤ n) (l Bs : Nat) (J Jx : List Inf → World → Prop) (W : World) 
    (hBs : W.cell? ⟨Bs, 0, none⟩ = some (.pointer none)) (h0 : J [] W) :
    CallsIn Fence.wide n Try.prog 65 #[.func (.yield l) #[] #[], .pointer (some ⟨Bs, 0, none⟩)] W fun e W' => (∃ v, e = .returned v) ∧
      ((∃ ys, ys = ([] : List Inf) ∧ J ys W') ∨ (∃ pre, pre <+: ([] : List Inf) ∧ Jx pre W')) := by
  refine callsIn_of_wp Try.func65 rfl trivial ?_ rfl
  simp only [Try.ntmps65, List.size_toArray, List.length_cons, List.length_nil, Nat.reduceAdd, Nat.reduceSub, Array.replicate_succ, Array.replicate_zero, List.push_toArray, List.append_toArray, List.nil_append, List.cons_append]
  gi_wp2_with fail
  refine ⟨trivial, ?_⟩
  refine (callsIn_wide.2 (nil_sorted W)).mono ?_
  rintro e w1 ⟨rfl, rfl⟩
  gi_wp2
  gi_loopw [8] (fun i wr => i = .int .i64 0 ∧ J [] wr) (fun _ _ => 0)
  case atStart => exact ⟨rfl, h0⟩
  case round =>
    obtain ⟨rfl, hJs⟩ := hrel
    gi_wp2
    go_end0
    exact ⟨⟨_, rfl⟩, .inl ⟨_, rfl, hJs⟩⟩
theorem all_stops_nil (n : Nat) (hn : 1 ≤ n) (Bs ob : Nat) (w : World) (hBs : Bs < w.heap.size) (hc : w.cell? ⟨Bs, 0, none⟩ = some (.pointer none)) :
    SeqStopsK Fence.wide n Try.prog 65 #[.pointer (some ⟨Bs, 0, none⟩)] (fun x : Inf => #[Inf.val x]) (OutK ob) (fun ys => ys = []) (fun pre => pre <+: []) 0 w := fun l J Jx W hW _ _ _ h0 =>
  all1_nil n hn l Bs J Jx W ((hW.cell (p := ⟨Bs, 0, none⟩) hBs).trans hc) h0
set_option maxRecDepth 100000 in
set_option maxHeartbeats 1000000 in
theorem nil_infos (w : World) :
    Calls Try.prog 17 #[.pointer none] w fun e w' => (∃ A c, e = .returned (.slice A 0 c)) ∧ Below w.heap.size w w' := by
  refine (callsIn_wide (n := 5)).1 ?_
  refine callsIn_of_wp_marks Try.func17 rfl trivial ?_ rfl
  simp only [Try.ntmps17, List.size_toArray, List.length_cons, List.length_nil, Nat.reduceAdd, Nat.reduceSub, Array.replicate_succ, Array.replicate_zero, List.push_toArray, List.append_toArray, List.nil_append, List.cons_append]
  gi_wp2_with fail
  refine ⟨trivial, ?_⟩
  refine (callsIn_wide.2 (nil_all _)).mono ?_
  rintro e w' ⟨rfl, rfl⟩
  have hnil := eql_nil ((w.alloc (.cells #[.slice none 0 0] 29)).alloc (.cells #[.pointer none] 25)) (w.heap.size + 1)
  gi_wp2
  have hbW0 : Below w.heap.size w ((w.alloc (.cells #[.slice none 0 0] 29)).alloc (.cells #[.pointer none] 25)) := ((Below.refl _ w).alloc (Nat.le_refl _) _).alloc (by simp) _
  have hbox : Boxed ((w.alloc (.cells #[.slice none 0 0] 29)).alloc (.cells #[.pointer none] 25)) w.heap.size 29 (.slice none 0 0) := (Boxed.new w 29 _).alloc _
  have hbB := (Boxed.new (w.alloc (.cells #[.slice none 0 0] 29)) 25 (.pointer none)).cell
  rw [World.size_alloc] at hbB
  refine wpIn_rangeFunc_ownH rfl (by omega) (gf := 65) (lb := #[.pointer (some ⟨w.heap.size + 1, 0, none⟩)]) rfl trivial (enters_of Try.func65 (by kernel_rfl) rfl)
    (all_stops_nil _ (by omega) (w.heap.size + 1) w.heap.size _ (by simp) hbB) OutK.trans (fun W l o o' => OutK.put (by simp; omega) W l o o') (Below.refl _ _) (fun _ => rfl)
    (fun pre W => (∃ v, Boxed W w.heap.size 29 v ∧ W.ownsRow (w.heap.size + 1) 32 3 v pre.length (pre.flatMap Inf.enc) ∧ True) ∧ Below w.heap.size w W)
    (fun _ _ _ => False)
    (OwnFrom.and (Own.from (holdsRow_own _ _ _ _ _ _ _ (fun _ _ => True)) _) (ownFrom_below (Nat.le_refl _) (by simp; omega)))
    (fun _ _ _ _ _ hs _ _ => hs)
    ⟨⟨_, hbox, World.ownsRow_nil _ _ _ _, trivial⟩, hbW0⟩
    (fun _ _ _ => True) ?hAx ?assign ?body ?done ?stop
  case hAx =>
    exact fun _ _ _ _ _ _ _ _ _ => trivial
  case assign =>
    rintro l pre x W K ⟨⟨v, hbx, hown, _⟩, hB⟩ hK
    unfold Inf.val
    gi_wp2
    exact hK _ _ ((KeepsOthers.alloc _ _).from _) (OutK.alloc hbx.lt _) ⟨⟨v, hbx.alloc _, hown.alloc _, trivial⟩, hB.alloc hB.size _⟩ trivial
  case body =>
    rintro l pre x a' W hl hr _ _ hpl
    exact absurd hpl (by omega)
  case done =>
    rintro D ys W hD rfl ⟨⟨v, hbx, hown, _⟩, hB⟩ hK
    have hc := hbx.cell
    have hvform : ∃ A c, v = .slice A 0 c := by
      rcases hown.2 with ⟨rfl, _⟩ | ⟨g, cap, cur, rfl, _⟩
      · exact ⟨_, _, rfl⟩
      · exact ⟨_, _, rfl⟩
    obtain ⟨A, cc, rfl⟩ := hvform
    gi_wp2
    refine ⟨by simp, .inl ⟨_, _, rfl, run_takeDeferred hK, ?_⟩⟩
    exact ⟨_, results_tmp rfl _ _ _, ⟨_, _, rfl⟩, hB.trans (belowK_b (w := w) (Nat.le_refl _) W D _ _ (by simp at hD; omega) hK rfl rfl)⟩
  case stop =>
    rintro D c pre W hD _ h _
    exact h.elim
end Go.Proofs.Ytcpcoomkapblcaa
open Go Go.RowKit Go.Maps
namespace Go.Proofs.Ytcpcoomkapblcaa
open Go.Shelf
def pw (j : Nat) : Int := ([1, 3, 9, 27, 81] : List Int)[j]?.getD 1
theorem pw_pos (j : Nat) : 1 ≤ pw j := by
  unfold pw
  match j with
  | 0 | 1 | 2 | 3 | 4 => decide
  | j + 5 => simp
theorem pw_cell (w : World) (t : TypeId) (j : Nat) (h : j < 5) : (w.alloc (.cells #[.int .i64 1, .int .i64 3, .int .i64 9, .int .i64 27, .int .i64 81] t)).cell? ⟨w.heap.size, j, none⟩ = some (.int .i64 (pw j)) := by
  unfold World.cell?
  rw [World.alloc_heap_new]
  match j, h with
  | 0, _ | 1, _ | 2, _ | 3, _ | 4, _ => rfl
theorem cell_four_new (W : World) (a b c d : Value) (t : TypeId) : ∀ j u, [a, b, c, d][j]? = some u → (W.alloc (.cells #[a, b, c, d] t)).cell? ((⟨W.heap.size, 0, none⟩ : Addr).add j) = some u := by
  intro j u hj
  match j, hj with
  | 0, hj => simp at hj; subst hj; simp [Addr.add]
  | 1, hj => simp at hj; subst hj; simp [Addr.add]
  | 2, hj => simp at hj; subst hj; simp [Addr.add]
  | 3, hj => simp at hj; subst hj; simp [Addr.add]
theorem wf_i64 {n : Int} (h1 : -9223372036854775808 ≤ n) (h2 : n ≤ 9223372036854775807) : (Lit.int .i64 n).wf = true := by
  have e := IntWalk.wrap64_in n ⟨h1, h2⟩
  rw [← e]; exact wrap64_wf _
def PlainM (M : List (ActD × Value)) : Prop := ∀ y ∈ M, y.2 = .slice none 0 0 ∧ y.1.lock = [] ∧ y.1.kind = 0 ∧ (Lit.int .i64 y.1.id).wf = true ∧ (Lit.int .i64 y.1.lev).wf = true
theorem PlainM.nil : PlainM [] := fun _ h => by cases h
theorem PlainM.snoc {M : List (ActD × Value)} (h : PlainM M) {i l : Int} (hi : (Lit.int .i64 i).wf = true) (hl : (Lit.int .i64 l).wf = true) : PlainM (M ++ [(⟨0, i, l, []⟩, .slice none 0 0)]) := by
  intro y hy
  rcases List.mem_append.1 hy with hy | hy
  · exact h y hy
  · have e := List.mem_singleton.1 hy
    subst e
    exact ⟨rfl, rfl, rfl, hi, hl⟩
theorem cells_new (W : World) (L : List Value) (t : TypeId) : ∀ j u, L[j]? = some u → (W.alloc (.cells L.toArray t)).cell? ((⟨W.heap.size, 0, none⟩ : Addr).add j) = some u := by
  intro j u hj
  have hh := World.alloc_heap_new W (.cells L.toArray t)
  have ea : ((⟨W.heap.size, 0, none⟩ : Addr).add j) = ⟨W.heap.size, j, none⟩ := by
    rw [show ((⟨W.heap.size, 0, none⟩ : Addr).add j) = ⟨W.heap.size, 0 + j, none⟩ from Go.WideShapes.add_plain _ _ _, Nat.zero_add]
  rw [ea]
  unfold World.cell?
  rw [hh]
  simpa using hj
/-- The six calls at the end. -/
def six (n k : Int) (b : Nat) : List (ActD × Value) :=
  [(⟨2, 1 + k % 7, k, []⟩, .slice none 0 0), (⟨4, k, 0, [k, n % 7]⟩, .slice (some ⟨b, 0, none⟩) 2 2), (⟨4, n, 0, []⟩, .slice none 0 0), (⟨3, 2, 0, []⟩, .slice none 0 0), (⟨0, 3, 5, []⟩, .slice none 0 0), (⟨4, 0, 0, []⟩, .slice none 0 0)]
theorem six_ok {n k : Int} {b : Nat} {W : World} (hn : 0 ≤ n ∧ n < 243) (hk : 0 ≤ k ∧ k < 9) (h : RdI W.heap.size W (.slice (some ⟨b, 0, none⟩) 2 2) [k, n % 7]) : ∀ y ∈ six n k b, OkA W.heap.size W y := by
  intro y hy
  simp only [six, List.mem_cons, List.not_mem_nil, or_false] at hy
  rcases hy with rfl | rfl | rfl | rfl | rfl | rfl
  · exact ⟨RdI.nil _ _, by simp, by simp, wf_i64 (by show _ ≤ 1 + k % 7; omega) (by show 1 + k % 7 ≤ _; omega), wf_i64 (by show _ ≤ k; omega) (by show k ≤ _; omega)⟩
  · exact ⟨h, by simp, by simp, wf_i64 (by show _ ≤ k; omega) (by show k ≤ _; omega), by kernel_rfl⟩
  · exact ⟨RdI.nil _ _, by simp, by simp, wf_i64 (by show _ ≤ n; omega) (by show n ≤ _; omega), by kernel_rfl⟩
  · exact ⟨RdI.nil _ _, by simp, by simp, by kernel_rfl, by kernel_rfl⟩
  · exact ⟨RdI.nil _ _, by simp, by simp, by kernel_rfl, by kernel_rfl⟩
  · exact ⟨RdI.nil _ _, by simp, by simp, by kernel_rfl, by kernel_rfl⟩
theorem PlainM.ok {M : List (ActD × Value)} (h : PlainM M) (W : World) : ∀ y ∈ M, OkA W.heap.size W y := by
  intro y hy
  obtain ⟨h1, h2, h3, h4, h5⟩ := h y hy
  exact ⟨by rw [h1, h2]; exact RdI.nil _ _, by rw [h2]; decide, by rw [h3]; decide, h4, h5⟩
theorem big_of_ok {W : World} {M : List (ActD × Value)} (h : ∀ y ∈ M, OkA W.heap.size W y) : ∀ x ∈ M.map Prod.fst, x.lock.length ≤ 20 := by
  intro x hx
  obtain ⟨y, hy, rfl⟩ := List.mem_map.1 hx
  exact (h y hy).len
def ends : List Int := [-9223372036854775808, -1, 0, 1, 2, 3, 1048576, 1048577, 1073741824, 1073741825, 9223372036854775807]
theorem ends_cell (W : World) (t : TypeId) : ∀ a, a < 11 → (W.alloc (.cells #[.int .i64 (-9223372036854775808), .int .i64 (-1), .int .i64 0, .int .i64 1, .int .i64 2, .int .i64 3, .int .i64 1048576, .int .i64 1048577, .int .i64 1073741824, .int .i64 1073741825, .int .i64 9223372036854775807] t)).cell? ⟨W.heap.size, a, none⟩ = some (.int .i64 (ends[a]?.getD 0)) := by
  intro a ha
  unfold World.cell?
  rw [World.alloc_heap_new]
  match a, ha with
  | 0, _ | 1, _ | 2, _ | 3, _ | 4, _ | 5, _ | 6, _ | 7, _ | 8, _ | 9, _ | 10, _ => rfl
theorem ends_wf (a : Nat) : (Lit.int .i64 (ends[a]?.getD 0)).wf = true := by
  match a with
  | 0 | 1 | 2 | 3 | 4 | 5 | 6 | 7 | 8 | 9 | 10 => exact wf_i64 (by decide) (by decide)
  | a + 11 => exact wf_i64 (by simp [ends]) (by simp [ends])
def fiveA (x y : Int) (b : Nat) : List (ActD × Value) :=
  [(⟨0, x, y, []⟩, .slice none 0 0), (⟨0, y, 3, []⟩, .slice none 0 0), (⟨2, x, y, []⟩, .slice none 0 0), (⟨4, 0, 0, [y, x, x]⟩, .slice (some ⟨b, 0, none⟩) 3 3), (⟨3, y, 0, []⟩, .slice none 0 0)]
theorem five_acts (W : World) (x y : Int) (hx : (Lit.int .i64 x).wf = true) (hy : (Lit.int .i64 y).wf = true) :
    RdA ((W.alloc (.cells #[.int .i64 y, .int .i64 x, .int .i64 x] 3)).alloc (.cells #[.int .u8 0, .int .i64 x, .int .i64 y, .slice none 0 0, .int .u8 0, .int .i64 y, .int .i64 3, .slice none 0 0, .int .u8 2, .int .i64 x, .int .i64 y, .slice none 0 0, .int .u8 4, .int .i64 0, .int .i64 0, .slice (some ⟨W.heap.size, 0, none⟩) 3 3, .int .u8 3, .int .i64 y, .int .i64 0, .slice none 0 0] 59)).heap.size ((W.alloc (.cells #[.int .i64 y, .int .i64 x, .int .i64 x] 3)).alloc (.cells #[.int .u8 0, .int .i64 x, .int .i64 y, .slice none 0 0, .int .u8 0, .int .i64 y, .int .i64 3, .slice none 0 0, .int .u8 2, .int .i64 x, .int .i64 y, .slice none 0 0, .int .u8 4, .int .i64 0, .int .i64 0, .slice (some ⟨W.heap.size, 0, none⟩) 3 3, .int .u8 3, .int .i64 y, .int .i64 0, .slice none 0 0] 59)) (.slice (some ⟨W.heap.size + 1, 0, none⟩) 5 5) ((fiveA x y W.heap.size).map Prod.fst) ∧ ∀ z ∈ (fiveA x y W.heap.size).map Prod.fst, z.lock.length ≤ 20 := by
  have hok : ∀ y' ∈ fiveA x y W.heap.size, OkA (W.alloc (.cells #[.int .i64 y, .int .i64 x, .int .i64 x] 3)).heap.size (W.alloc (.cells #[.int .i64 y, .int .i64 x, .int .i64 x] 3)) y' := by
    intro y' hy'
    simp only [fiveA, List.mem_cons, List.not_mem_nil, or_false] at hy'
    rcases hy' with rfl | rfl | rfl | rfl | rfl
    · exact ⟨RdI.nil _ _, by simp, by simp, hx, hy⟩
    · exact ⟨RdI.nil _ _, by simp, by simp, hy, by kernel_rfl⟩
    · exact ⟨RdI.nil _ _, by simp, by simp, hx, hy⟩
    · exact ⟨(RdI.lit W [y, x, x] 3 3 (Nat.le_refl _)).more (by simp), by simp, by simp, by kernel_rfl, by kernel_rfl⟩
    · exact ⟨RdI.nil _ _, by simp, by simp, hy, by kernel_rfl⟩
  have e : (W.alloc (.cells #[.int .i64 y, .int .i64 x, .int .i64 x] 3)).heap.size = W.heap.size + 1 := by simp
  have h := rdA_lit (W.alloc (.cells #[.int .i64 y, .int .i64 x, .int .i64 x] 3)) (fiveA x y W.heap.size) 59 hok
  rw [e] at h
  exact ⟨h, big_of_ok hok⟩
theorem sorts_five (W : World) (x y : Int) :
    Calls Try.prog 36 #[.slice (some ⟨W.heap.size, 0, none⟩) 5 5] (W.alloc (.cells #[.int .i64 x, .int .i64 y, .int .i64 1, .int .i64 1, .int .i64 x, .int .i64 y, .int .i64 y, .int .i64 1, .int .i64 x, .int .i64 x, .int .i64 y, .int .i64 1, .int .i64 2, .int .i64 x, .int .i64 y] 32)) fun e w' => e = .returned (.bool true) ∧ Below (W.alloc (.cells #[.int .i64 x, .int .i64 y, .int .i64 1, .int .i64 1, .int .i64 x, .int .i64 y, .int .i64 y, .int .i64 1, .int .i64 x, .int .i64 x, .int .i64 y, .int .i64 1, .int .i64 2, .int .i64 x, .int .i64 y] 32)).heap.size (W.alloc (.cells #[.int .i64 x, .int .i64 y, .int .i64 1, .int .i64 1, .int .i64 x, .int .i64 y, .int .i64 y, .int .i64 1, .int .i64 x, .int .i64 x, .int .i64 y, .int .i64 1, .int .i64 2, .int .i64 x, .int .i64 y] 32)) w' :=
  sorts_any _ _ 5 [⟨x, y, 1⟩, ⟨1, x, y⟩, ⟨y, 1, x⟩, ⟨x, y, 1⟩, ⟨2, x, y⟩] (rdS_lit W [⟨x, y, 1⟩, ⟨1, x, y⟩, ⟨y, 1, x⟩, ⟨x, y, 1⟩, ⟨2, x, y⟩] 32) (by simp)
theorem plays_five (W : World) (x y : Int) (hx : (Lit.int .i64 x).wf = true) (hy : (Lit.int .i64 y).wf = true) :
    Calls Try.prog 35 #[.slice (some ⟨W.heap.size + 1, 0, none⟩) 5 5] ((W.alloc (.cells #[.int .i64 y, .int .i64 x, .int .i64 x] 3)).alloc (.cells #[.int .u8 0, .int .i64 x, .int .i64 y, .slice none 0 0, .int .u8 0, .int .i64 y, .int .i64 3, .slice none 0 0, .int .u8 2, .int .i64 x, .int .i64 y, .slice none 0 0, .int .u8 4, .int .i64 0, .int .i64 0, .slice (some ⟨W.heap.size, 0, none⟩) 3 3, .int .u8 3, .int .i64 y, .int .i64 0, .slice none 0 0] 59)) fun e w' => e = .returned (.bool true) ∧ Below ((W.alloc (.cells #[.int .i64 y, .int .i64 x, .int .i64 x] 3)).alloc (.cells #[.int .u8 0, .int .i64 x, .int .i64 y, .slice none 0 0, .int .u8 0, .int .i64 y, .int .i64 3, .slice none 0 0, .int .u8 2, .int .i64 x, .int .i64 y, .slice none 0 0, .int .u8 4, .int .i64 0, .int .i64 0, .slice (some ⟨W.heap.size, 0, none⟩) 3 3, .int .u8 3, .int .i64 y, .int .i64 0, .slice none 0 0] 59)).heap.size ((W.alloc (.cells #[.int .i64 y, .int .i64 x, .int .i64 x] 3)).alloc (.cells #[.int .u8 0, .int .i64 x, .int .i64 y, .slice none 0 0, .int .u8 0, .int .i64 y, .int .i64 3, .slice none 0 0, .int .u8 2, .int .i64 x, .int .i64 y, .slice none 0 0, .int .u8 4, .int .i64 0, .int .i64 0, .slice (some ⟨W.heap.size, 0, none⟩) 3 3, .int .u8 3, .int .i64 y, .int .i64 0, .slice none 0 0] 59)) w' :=
  plays_any _ _ ((fiveA x y W.heap.size).map Prod.fst) (five_acts W x y hx hy).1 (by simp [fiveA]) (five_acts W x y hx hy).2
theorem ones_cell (W : World) (t : TypeId) : ∀ a, a < 5 → (W.alloc (.cells #[.int .i64 1, .int .i64 1, .int .i64 1, .int .i64 1, .int .i64 1] t)).cell? ⟨W.heap.size, a, none⟩ = some (.int .i64 1) := by
  intro a ha
  unfold World.cell?
  rw [World.alloc_heap_new]
  match a, ha with
  | 0, _ | 1, _ | 2, _ | 3, _ | 4, _ => rfl
theorem eql_zero (W : World) : (binOp .eql 32 (.agg #[.int .i64 0, .int .i64 0, .int .i64 0]) (.agg #[.int .i64 0, .int .i64 0, .int .i64 0])).run Try.prog W = .ok (.bool true) W := by
  rw [run_eql_struct]
  simp [go_sem]
theorem act_info : (Try.prog.info? 59).map (fun i => (i.zero, i.size, i.bytes)) = some (some (.agg #[.int .u8 0, .int .i64 0, .int .i64 0, .slice none 0 0]), 4, 48) := by kernel_rfl
set_option maxRecDepth 10000000 in
set_option maxHeartbeats 8000000 in
theorem reduceSmall_any (w : World) : Calls Try.prog 12 #[] w fun e w' => e = .returned (.bool true) ∧ Below w.heap.size w w' := by
  obtain ⟨i0, hi, hz0, hz1, hz2⟩ := info_parts act_info
  go_enter Try.func12, Try.ntmps12
  go_wp2_with fail
  go_loopw [22] (fun i wr => ∃ n : Nat, n ≤ 243 ∧ i = .int .i64 n ∧ Below w.heap.size w wr) (fun i _ => 243 - (intOf i).toNat)
  case atStart => exact ⟨0, by omega, rfl, Below.refl _ _⟩
  case round =>
    obtain ⟨n, hn, rfl, hbn⟩ := hrel
    by_cases hlt : n < 243
    · obtain ⟨wn, rfl⟩ : ∃ y : World, y = wr := ⟨_, rfl⟩
      have hszn := hbn.size
      have hd1 : decide ((n : Int) < 243) = true := decide_eq_true (by omega)
      go_wp2_with fail
      go_loopw [25] (fun i wr => ∃ k : Nat, k ≤ 9 ∧ i = .int .i64 k ∧ Below w.heap.size w wr) (fun i _ => 9 - (intOf i).toNat)
      case atStart => exact ⟨0, by omega, rfl, hbn⟩
      case round =>
        obtain ⟨k, hk, rfl, hbk⟩ := hrel
        by_cases hlt2 : k < 9
        · obtain ⟨wk, rfl⟩ : ∃ y : World, y = wr := ⟨_, rfl⟩
          have hszk := hbk.size
          have hd2 : decide ((k : Int) < 9) = true := decide_eq_true (by omega)
          have hm4 : (n : Int).tmod 4 = ((n % 4 : Nat) : Int) := by rw [Int.tmod_eq_emod_of_nonneg (by omega)]; omega
          have hq4 : n % 4 < 4 := Nat.mod_lt _ (by decide)
          go_wp2_with fail
          go_loopw [3, 31] (fun v i wr => ∃ (j : Nat) (M : List (ActD × Value)), j ≤ 2 + n % 4 ∧ i = .int .i64 j ∧ M.length = j ∧ wr.ownsRow w.heap.size 59 4 v j (M.flatMap encA) ∧ Hid (PlainM M) ∧ Below w.heap.size w wr) (fun _ i _ => 6 - (intOf i).toNat)
          case atStart => exact ⟨0, [], by omega, rfl, rfl, World.ownsRow_nil _ _ _ _, Lib.hid PlainM.nil, hbk⟩
          case round =>
            obtain ⟨j, M, hj, rfl, hM, hown, HMM, hbj⟩ := hrel
            by_cases hlt3 : j < 2 + n % 4
            · obtain ⟨wj, rfl⟩ : ∃ y : World, y = wr := ⟨_, rfl⟩
              have hszj := hbj.size
              have hpw := pw_pos j
              have hpc := pw_cell wj 3 j (by omega)
              have hj0 : (0 : Int) ≤ (j : Int) := by omega
              have hj1 : (j : Int) < 5 := by omega
              have HOWN := Lib.hid hown
              clear hown
              have hcl : ∀ a b c d, ∀ i u, [a, b, c, d][i]? = some u → ((wj.alloc (.cells #[.int .i64 1, .int .i64 3, .int .i64 9, .int .i64 27, .int .i64 81] 3)).alloc (.cells #[a, b, c, d] 59)).cell? ((⟨wj.heap.size + 1, 0, none⟩ : Addr).add i) = some u := by
                intro a b c d
                have e : (wj.alloc (.cells #[.int .i64 1, .int .i64 3, .int .i64 9, .int .i64 27, .int .i64 81] 3)).heap.size = wj.heap.size + 1 := by simp
                rw [← e]; exact cell_four_new _ _ _ _ _ _
              have HCL := Lib.hid hcl
              clear hcl
              go_wp2_with (at_builtin; refine wpList_append_own _ rfl _ _ 56 rfl w.heap.size 59 i0 (.agg #[.int .u8 0, .int .i64 0, .int .i64 0, .slice none 0 0]) 4 48 Try.underlying56 hi hz0 hz1 hz2 rfl (by decide) _ _ _ rfl ((HOWN.out.alloc _).alloc _) ⟨wj.heap.size + 1, 0, none⟩ 1 1 [.int .u8 0, .int .i64 (((j : Int) * 3 + (k : Int)) % 7 + 1), .int .i64 (wrap64 (1 + (wrap64 ((n : Int) / pw j)).tmod 3)), .slice none 0 0] rfl rfl (HCL.out _ _ _ _) (by simp [Value.oneCell']) (by simp only [maxLen]; omega) (by omega) (by simp; omega) ?_; intro v' w2 hown2 hg2 _)
              have hbj2 : Below w.heap.size w w2 := ((hbj.alloc hszj _).alloc (by simp; omega) _).grown hg2 (by simp; omega) (fun q hq => own_lt HOWN.out q hq)
              have HO2 := Lib.hid hown2
              clear hown2 hg2
              go_wp2_with fail
              go_roundw
              case rel => exact ⟨j + 1, M ++ [((⟨0, ((j : Int) * 3 + (k : Int)) % 7 + 1, wrap64 (1 + (wrap64 ((n : Int) / pw j)).tmod 3), []⟩ : ActD), (.slice none 0 0 : Value))], by omega, by go_num, by simp [hM], by rw [List.flatMap_append]; exact HO2.out, Lib.hid (HMM.out.snoc (wf_i64 (by omega) (by omega)) (wrap64_wf _)), hbj2⟩
              case measure => simp [intOf]; omega
            · obtain rfl : j = 2 + n % 4 := by omega
              obtain ⟨wj, rfl⟩ : ∃ y : World, y = wr := ⟨_, rfl⟩
              have hszj := hbj.size
              have HOWN := Lib.hid hown
              clear hown
              have hcl : ((wj.alloc (.cells #[.int .i64 (k : Int), .int .i64 ((n : Int) % 7)] 3)).alloc (.cells ((six n k wj.heap.size).flatMap encA).toArray 59)).heap.size = wj.heap.size + 2 ∧ ∀ i u, ((six n k wj.heap.size).flatMap encA)[i]? = some u → ((wj.alloc (.cells #[.int .i64 (k : Int), .int .i64 ((n : Int) % 7)] 3)).alloc (.cells ((six n k wj.heap.size).flatMap encA).toArray 59)).cell? ((⟨wj.heap.size + 1, 0, none⟩ : Addr).add i) = some u := by
                have e : (wj.alloc (.cells #[.int .i64 (k : Int), .int .i64 ((n : Int) % 7)] 3)).heap.size = wj.heap.size + 1 := by simp
                refine ⟨by simp, ?_⟩
                rw [← e]; exact cells_new _ _ _
              have HCL := Lib.hid hcl
              clear hcl
              go_wp2_with (at_builtin; refine wpList_append_own _ rfl _ _ 56 rfl w.heap.size 59 i0 (.agg #[.int .u8 0, .int .i64 0, .int .i64 0, .slice none 0 0]) 4 48 Try.underlying56 hi hz0 hz1 hz2 rfl (by decide) _ _ _ rfl ((HOWN.out.alloc _).alloc _) ⟨wj.heap.size + 1, 0, none⟩ 6 6 ((six n k wj.heap.size).flatMap encA) rfl rfl HCL.out.2 (by simp [six, encA, Value.oneCell']) (by simp only [maxLen]; omega) (by omega) (by simp; omega) ?_; intro v' w2 hown2 hg2 _)
              have hlk : RdI w2.heap.size w2 (.slice (some ⟨wj.heap.size, 0, none⟩) 2 2) [(k : Int), (n : Int) % 7] := by
                refine ⟨_, 2, rfl, Nat.le_refl _, fun _ => ⟨wj.heap.size, 0, rfl, ?_, fun r hr => ?_⟩⟩
                · exact Nat.lt_of_lt_of_le (by simp; omega) hg2.size
                · have hbk1 : w2.heap[wj.heap.size]? = some (.cells #[.int .i64 (k : Int), .int .i64 ((n : Int) % 7)] 3 (0, 0)) := by
                    rw [hg2.block wj.heap.size (by simp; omega) (fun e => by have := (HOWN.out.lt _ e.symm).2; omega)]
                    rw [Below.heap_alloc _ _ _ (by simp)]
                    exact World.alloc_heap_new _ _
                  unfold World.cell?
                  rw [hbk1]
                  match r, hr with
                  | 0, _ | 1, _ => rfl
              have hbj2 : Below w.heap.size w w2 := ((hbj.alloc hszj _).alloc (by simp; omega) _).grown hg2 (by simp; omega) (fun q hq => own_lt HOWN.out q hq)
              have hok : ∀ y ∈ M ++ six n k wj.heap.size, OkA w2.heap.size w2 y := fun y hy => by
                rcases List.mem_append.1 hy with hy | hy
                · exact HMM.out.ok _ y hy
                · exact six_ok ⟨by omega, by omega⟩ ⟨by omega, by omega⟩ hlk y hy
              have hrd : RdA w2.heap.size w2 v' ((M ++ six n k wj.heap.size).map Prod.fst) := rdA_of_own (n := 2 + n % 4 + 6) (by rw [List.flatMap_append]; exact hown2) hok
              have hpl := plays_any w2 _ _ hrd (by simp [hM, six]; omega) (big_of_ok hok)
              have HPL := Lib.hid hpl
              clear hpl hrd hok hlk hown2 hg2 HCL HOWN HMM
              refine HPL.out.mono ?_
              rintro e w3 ⟨rfl, hb3⟩
              go_wp2_with fail
              go_roundw
              case rel => exact ⟨k + 1, by omega, by go_num, hbj2.trans (hb3.mono hbj2.size)⟩
              case measure => simp [intOf]; omega
        · obtain rfl : k = 9 := by omega
          go_wp2_with fail
          go_roundw
          case rel => exact ⟨n + 1, by omega, by go_num, hbk⟩
          case measure => simp [intOf]; omega
    · have hd1 : decide ((n : Int) < 243) = false := decide_eq_false (by omega)
      clear hlt hn
      clear hi hz0 hz1 hz2
      have hsz := hbn.size
      have hb5 := hbn.alloc hbn.size (.cells #[.int .i64 (-9223372036854775808), .int .i64 (-1), .int .i64 0, .int .i64 1, .int .i64 2, .int .i64 3, .int .i64 1048576, .int .i64 1048577, .int .i64 1073741824, .int .i64 1073741825, .int .i64 9223372036854775807] 3)
      have hE := ends_cell wr 3
      have hg5 : wr.heap.size < (wr.alloc (.cells #[.int .i64 (-9223372036854775808), .int .i64 (-1), .int .i64 0, .int .i64 1, .int .i64 2, .int .i64 3, .int .i64 1048576, .int .i64 1048577, .int .i64 1073741824, .int .i64 1073741825, .int .i64 9223372036854775807] 3)).heap.size := by simp
      go_wp2_with fail
      generalize wr.alloc (.cells #[.int .i64 (-9223372036854775808), .int .i64 (-1), .int .i64 0, .int .i64 1, .int .i64 2, .int .i64 3, .int .i64 1048576, .int .i64 1048577, .int .i64 1073741824, .int .i64 1073741825, .int .i64 9223372036854775807] 3) = w5 at *
      generalize wr.heap.size = g at *
      have HE := Lib.hid hE
      have HB5 := Lib.hid hb5
      clear hE hb5
      go_loopw [80] (fun i wr => ∃ a : Nat, a ≤ 11 ∧ i = .int .i64 a ∧ Below w5.heap.size w5 wr) (fun i _ => 11 - (intOf i).toNat)
      case atStart => exact ⟨0, by omega, rfl, Below.refl _ _⟩
      case round =>
        obtain ⟨a, ha, rfl, hba⟩ := hrel
        by_cases hlta : a < 11
        · obtain ⟨wa, rfl⟩ : ∃ y : World, y = wr := ⟨_, rfl⟩
          have hda : decide ((a : Int) < 11) = true := decide_eq_true (by omega)
          have hca := (hba.cell (p := ⟨g, a, none⟩) hg5).trans (HE.out a hlta)
          have hwx := ends_wf a
          generalize ends[a]?.getD 0 = x at *
          have ha0 : (0 : Int) ≤ (a : Int) := by omega
          have ha1 : (a : Int) < 11 := by omega
          go_wp2_with fail
          go_loopw [86] (fun i wr => ∃ b : Nat, b ≤ 11 ∧ i = .int .i64 b ∧ Below w5.heap.size w5 wr) (fun i _ => 11 - (intOf i).toNat)
          case atStart => exact ⟨0, by omega, rfl, hba⟩
          case round =>
            obtain ⟨b, hb, rfl, hbb⟩ := hrel
            by_cases hltb : b < 11
            · obtain ⟨wb, rfl⟩ : ∃ y : World, y = wr := ⟨_, rfl⟩
              have hdb : decide ((b : Int) < 11) = true := decide_eq_true (by omega)
              have hcb := (hbb.cell (p := ⟨g, b, none⟩) hg5).trans (HE.out b hltb)
              have hwy := ends_wf b
              generalize ends[b]?.getD 0 = y at *
              have hb0 : (0 : Int) ≤ (b : Int) := by omega
              have hb1 : (b : Int) < 11 := by omega
              have HS := Lib.hid (sorts_five wb x y)
              have hbS := hbb.alloc hbb.size (.cells #[.int .i64 x, .int .i64 y, .int .i64 1, .int .i64 1, .int .i64 x, .int .i64 y, .int .i64 y, .int .i64 1, .int .i64 x, .int .i64 x, .int .i64 y, .int .i64 1, .int .i64 2, .int .i64 x, .int .i64 y] 32)
              have HBS := Lib.hid hbS
              clear hbS hbb
              go_wp2_with fail
              refine HS.out.mono ?_
              rintro e w6 ⟨rfl, hb6⟩
              go_wp2_with fail
              refine (times_any x y 3 (by decide) _).mono ?_
              rintro e w7 ⟨rfl, hb7⟩
              have hb57 : Below w5.heap.size w5 w7 := HBS.out.trans ((hb6.trans (hb7.mono hb6.size)).mono HBS.out.size)
              have HB57 := Lib.hid hb57
              have hP := plays_five w7 x y hwx hwy
              have hbP := (hb57.alloc hb57.size (.cells #[.int .i64 y, .int .i64 x, .int .i64 x] 3)).alloc (by have := hb57.size; simp; omega) (.cells #[.int .u8 0, .int .i64 x, .int .i64 y, .slice none 0 0, .int .u8 0, .int .i64 y, .int .i64 3, .slice none 0 0, .int .u8 2, .int .i64 x, .int .i64 y, .slice none 0 0, .int .u8 4, .int .i64 0, .int .i64 0, .slice (some ⟨w7.heap.size, 0, none⟩) 3 3, .int .u8 3, .int .i64 y, .int .i64 0, .slice none 0 0] 59)
              have HP := Lib.hid hP
              have HBP := Lib.hid hbP
              clear hP hbP hb57 hb6 hb7 HBS HS hcb
              go_wp2_with fail
              refine HP.out.mono ?_
              rintro e w8 ⟨rfl, hb8⟩
              have hb58 := HBP.out.trans (hb8.mono HBP.out.size)
              clear hb8
              go_wp2_with fail
              go_roundw
              case rel => exact ⟨b + 1, by omega, by go_num, hb58⟩
              case measure => simp [intOf]; omega
            · obtain rfl : b = 11 := by omega
              go_wp2_with fail
              go_roundw
              case rel => exact ⟨a + 1, by omega, by go_num, hbb⟩
              case measure => simp [intOf]; omega
        · have hda : decide ((a : Int) < 11) = false := decide_eq_false (by omega)
          have hbE := HB5.out.trans (hba.mono HB5.out.size)
          have hsz2 := hbE.size
          clear hlta ha hba HE hg5 HB5
          go_wp2_with fail
          go_loopw [10] (fun i wr => ∃ f : Nat, f ≤ 5 ∧ i = .int .i64 f ∧ Below w.heap.size w wr) (fun i _ => 5 - (intOf i).toNat)
          case atStart => exact ⟨1, by omega, rfl, hbE⟩
          case round =>
            obtain ⟨f, hf, rfl, hbf⟩ := hrel
            by_cases hltf : f < 5
            · have hdf : decide ((f : Int) < 5) = true := decide_eq_true (by omega)
              obtain ⟨wf, rfl⟩ : ∃ y : World, y = wr := ⟨_, rfl⟩
              go_wp2_with fail
              go_loopw [140] (fun i wr => ∃ b : Nat, b ≤ 5 ∧ i = .int .i64 b ∧ Below w.heap.size w wr) (fun i _ => 5 - (intOf i).toNat)
              case atStart => exact ⟨0, by omega, rfl, hbf⟩
              case round =>
                obtain ⟨b, hb, rfl, hbb⟩ := hrel
                by_cases hltb : b < 5
                · have hdb : decide ((b : Int) < 5) = true := decide_eq_true (by omega)
                  have HBB := Lib.hid hbb
                  go_wp2_with fail
                  refine (times_any f b 60 (by decide) _).mono ?_
                  rintro e w7 ⟨rfl, hb7⟩
                  have hb8 := HBB.out.trans (hb7.mono HBB.out.size)
                  clear hb7
                  go_wp2_with fail
                  go_roundw
                  case rel => exact ⟨b + 1, by omega, by go_num, hb8⟩
                  case measure => simp [intOf]; omega
                · have hdb : decide ((b : Int) < 5) = false := decide_eq_false (by omega)
                  go_wp2_with fail
                  go_roundw
                  case rel => exact ⟨f + 1, by omega, by go_num, hbb⟩
                  case measure => simp [intOf]; omega
            · have hdf : decide ((f : Int) < 5) = false := decide_eq_false (by omega)
              have HBF := Lib.hid hbf
              clear hbf hltf hf
              go_wp2_with fail
              refine (nil_reduce _).mono ?_
              rintro e w6 ⟨rfl, hb6⟩
              go_wp2_with fail
              refine (nil_conflict _).mono ?_
              rintro e w7 ⟨rfl, rfl⟩
              go_wp2_with fail
              refine (nil_info _).mono ?_
              rintro e w7 ⟨rfl, hb7⟩
              have hb8 := HBF.out.trans ((hb6.trans (hb7.mono hb6.size)).mono HBF.out.size)
              have hbx := heap_alloc_new w7 (.cells #[.int .i64 0, .int .i64 0, .int .i64 0] 32)
              have hb9 := hb8.alloc hb8.size (.cells #[.int .i64 0, .int .i64 0, .int .i64 0] 32)
              clear hb6 hb7
              go_wp2_with fail
              refine (nil_put _).mono ?_
              rintro e w8 ⟨rfl, rfl⟩
              go_wp2_with fail
              refine (nil_use _).mono ?_
              rintro e w8 ⟨rfl, rfl⟩
              go_wp2_with fail
              refine (nil_remove _).mono ?_
              rintro e w8 ⟨rfl, rfl⟩
              have hlt8 : w7.heap.size < (w7.alloc (.cells #[.int .i64 0, .int .i64 0, .int .i64 0] 32)).heap.size := by simp
              generalize w7.alloc (.cells #[.int .i64 0, .int .i64 0, .int .i64 0] 32) = w8 at *
              have ho := ones_cell w8 34
              have hbo := (Below.refl w8.heap.size w8).alloc (Nat.le_refl _) (.cells #[.int .i64 1, .int .i64 1, .int .i64 1, .int .i64 1, .int .i64 1] 34)
              have HBO := Lib.hid hbo
              have HBX := Lib.hid hbx
              have HB9 := Lib.hid hb9
              clear hbo hbx hb9 hb8
              go_wp2_with fail
              generalize w8.alloc (.cells #[.int .i64 1, .int .i64 1, .int .i64 1, .int .i64 1, .int .i64 1] 34) = w9 at *
              have HO := Lib.hid ho
              clear ho
              go_loopw [173] (fun i wr => ∃ b : Nat, b ≤ 5 ∧ i = .int .i64 b ∧ wr = w9) (fun i _ => 5 - (intOf i).toNat)
              case atStart => exact ⟨0, by omega, rfl, rfl⟩
              case round =>
                obtain ⟨b, hb, rfl, rfl⟩ := hrel
                by_cases hltb : b < 5
                · have hdb : decide ((b : Int) < 5) = true := decide_eq_true (by omega)
                  have hc := HO.out b hltb
                  have hb0 : (0 : Int) ≤ (b : Int) := by omega
                  have hb1 : (b : Int) < 5 := by omega
                  go_wp2_with fail
                  go_roundw
                  case rel => exact ⟨b + 1, by omega, by go_num, trivial⟩
                  case measure => simp [intOf]; omega
                · have hdb : decide ((b : Int) < 5) = false := decide_eq_false (by omega)
                  go_wp2_with fail
                  refine (nil_infos _).mono ?_
                  rintro e w10 ⟨⟨A, cA, rfl⟩, hb10⟩
                  have hx10 := box3 (((HBO.out.trans (hb10.mono HBO.out.size)).block w7.heap.size hlt8).trans HBX.out)
                  obtain ⟨⟨q0, q1, q2⟩, -⟩ := hx10
                  have HB10 := Lib.hid (HB9.out.trans ((HBO.out.trans (hb10.mono HBO.out.size)).mono HB9.out.size))
                  have hez := eql_zero
                  clear hb10
                  go_wp2_with fail
                  refine (nil_len _).mono ?_
                  rintro e w11 ⟨rfl, rfl⟩
                  go_wp2_with fail
                  refine (nil_clock _).mono ?_
                  rintro e w11 ⟨rfl, rfl⟩
                  go_wp2_with fail
                  refine (nil_left _).mono ?_
                  rintro e w11 ⟨rfl, rfl⟩
                  go_wp2_with fail
                  refine (nil_count _).mono ?_
                  rintro e w11 ⟨rfl, rfl⟩
                  go_wp2_with fail
                  refine (awake_any _).mono ?_
                  rintro e w12 ⟨rfl, hb12⟩
                  go_wp2_with fail
                  go_ret
                  exact ⟨rfl, HB10.out.trans (hb12.mono HB10.out.size)⟩
end Go.Proofs.Ytcpcoomkapblcaa
